-- The functions of the seat as plain Lean functions, made by the kit's print.py for all laws at once. Not trusted: Lean checks it.
import Derived.Test.YtjgbidklkhohfaaDoorPx0
import Derived.Test.YtjgbidklkhohfaaDoorPx1
import Derived.Test.YtjgbidklkhohfaaDoorPx3
import Derived.Test.YtjgbidklkhohfaaDoorPx6
import Derived.Test.YtjgbidklkhohfaaDoorPx7
import Derived.Test.YtjgbidklkhohfaaDoorPx9
namespace Go.Proofs.YtjgbidklkhohfaaDoor.P
open Go.RowKit Go.Proofs.YtjgbidklkhohfaaDoorW.PrintWords Go.Proofs.YtjgbidklkhohfaaDoorW.PrintLast Go.Proofs.YtjgbidklkhohfaaDoorW.PrintMore
attribute [local go_sem] max2_int min2_int max_two min_two max_three min_three max_four min_four   -- for this text's walks alone
set_option linter.unusedVariables false
set_option linter.unusedSimpArgs false
/-! ### spec_l11Files: function 61 -/
mutual
def spec_l11Files.j0 : Nat → List (S58) → List ByteArray → ByteArray → Bool → Bool → Option (List ByteArray)
 | 0, _, _, _, _, _ => none
 | k + 1, x0, x2, x7, x8, x34 => if x34 = true then ((spec_JoinPath.f k x2).bind fun t782 => (some (([t782] : List ByteArray)))) else ((spec_ReadFolder.f k x7).bind fun bt789 => (spec_l11Files.l0 k x0 x2 x8 (([] : List ByteArray)) bt789.1 bt789.2 0))
def spec_l11Files.l0 : Nat → List (S58) → List ByteArray → Bool → List ByteArray → List (S63) → Bool → Int → Option (List ByteArray)
 | 0, _, _, _, _, _, _, _ => none
 | k + 1, x0, x2, x8, x11, x12, x13, x14 => if x14 < (x12.length : Int) then (if x8 = true then (if x13 = true then (spec_l11Files.j2 k x0 x2 x8 x11 x12 x13 x14 (decide ((x2.length : Int) < 3))) else (spec_l11Files.j2 k x0 x2 x8 x11 x12 x13 x14 false)) else (spec_l11Files.j2 k x0 x2 x8 x11 x12 x13 x14 false)) else (spec_l11Files.j2 k x0 x2 x8 x11 x12 x13 x14 false)
def spec_l11Files.j2 : Nat → List (S58) → List ByteArray → Bool → List ByteArray → List (S63) → Bool → Int → Bool → Option (List ByteArray)
 | 0, _, _, _, _, _, _, _, _ => none
 | k + 1, x0, x2, x8, x11, x12, x13, x14, x58 => if x58 = true then (if 0 ≤ x14 then (if x14 < (x12.length : Int) then ((some (([] : List ByteArray) : List ByteArray)).bind fun y794 => (if y794.length + x2.length < 8796093022208 then ((some (y794 ++ x2 : List ByteArray)).bind fun y797 => ((some (([(rd_T63 x12 x14).f0] : List ByteArray) : List ByteArray)).bind fun y801 => (if y797.length + y801.length < 8796093022208 then ((spec_l11Files.f k x0 ((rd_T63 x12 x14).f1) (y797 ++ y801)).bind fun t807 => (if x11.length + t807.length < 8796093022208 then (spec_l11Files.l0 k x0 x2 x8 (x11 ++ t807) x12 x13 (wrap64 (x14 + 1))) else (none))) else (none)))) else (none))) else (none)) else (none)) else (some x11)
def spec_l11Files.f : Nat → List (S58) → Int → List ByteArray → Option (List ByteArray)
 | 0, _, _, _ => none
 | k + 1, l0, a1, l2 => (spec_l4Get.f k l0 a1).bind fun bt778 => ((spec_ReadFile.f k bt778.1).bind fun bt780 => (if bt778.2 = true then (if bt780.2 = true then (spec_l11Files.j0 k l0 l2 bt778.1 bt778.2 (decide ((l2.length : Int) > 0))) else (spec_l11Files.j0 k l0 l2 bt778.1 bt778.2 false)) else (spec_l11Files.j0 k l0 l2 bt778.1 bt778.2 false)))
end
theorem spec_l11Files.mono_l : ∀ k, (∀ y0 y1 y2, LeO (spec_l11Files.f k y0 y1 y2) (spec_l11Files.f (k + 1) y0 y1 y2)) ∧ (∀ y0 y1 y2 y3 y4, LeO (spec_l11Files.j0 k y0 y1 y2 y3 y4) (spec_l11Files.j0 (k + 1) y0 y1 y2 y3 y4)) ∧ (∀ y0 y1 y2 y3 y4 y5 y6, LeO (spec_l11Files.l0 k y0 y1 y2 y3 y4 y5 y6) (spec_l11Files.l0 (k + 1) y0 y1 y2 y3 y4 y5 y6)) ∧ (∀ y0 y1 y2 y3 y4 y5 y6 y7, LeO (spec_l11Files.j2 k y0 y1 y2 y3 y4 y5 y6 y7) (spec_l11Files.j2 (k + 1) y0 y1 y2 y3 y4 y5 y6 y7))
 | 0 => ⟨fun _ _ _ r h => by simp [spec_l11Files.f] at h, fun _ _ _ _ _ r h => by simp [spec_l11Files.j0] at h, fun _ _ _ _ _ _ _ r h => by simp [spec_l11Files.l0] at h, fun _ _ _ _ _ _ _ _ r h => by simp [spec_l11Files.j2] at h⟩
 | k + 1 => by
  obtain ⟨ih0, ih1, ih2, ih3⟩ := spec_l11Files.mono_l k
  refine ⟨?_, ?_, ?_, ?_⟩
  ·intro y0 y1 y2
   unfold spec_l11Files.f
   repeat' first
   | (with_reducible exact ih0 _ _ _)
   | (with_reducible exact ih1 _ _ _ _ _)
   | (with_reducible exact ih2 _ _ _ _ _ _ _)
   | (with_reducible exact ih3 _ _ _ _ _ _ _ _)
   | (with_reducible exact spec_JoinPath.mono _ _)
   | (with_reducible exact spec_ReadFile.mono _ _)
   | (with_reducible exact spec_ReadFolder.mono _ _)
   | (with_reducible exact spec_l4Get.mono _ _ _)
   | (with_reducible exact LeO.refl _)
   | (with_reducible exact LeO.none _)
   | (with_reducible refine LeO.ite ?_ ?_)
   | (with_reducible refine LeO.bind ?_ (fun _ => ?_))
   | exact ih0 _ _ _
   | exact ih1 _ _ _ _ _
   | exact ih2 _ _ _ _ _ _ _
   | exact ih3 _ _ _ _ _ _ _ _
   | exact spec_JoinPath.mono _ _
   | exact spec_ReadFile.mono _ _
   | exact spec_ReadFolder.mono _ _
   | exact spec_l4Get.mono _ _ _
   | exact LeO.none _
   | refine LeO.ite ?_ ?_
   | refine LeO.bind ?_ (fun _ => ?_)
  ·intro y0 y1 y2 y3 y4
   unfold spec_l11Files.j0
   repeat' first
   | (with_reducible exact ih0 _ _ _)
   | (with_reducible exact ih1 _ _ _ _ _)
   | (with_reducible exact ih2 _ _ _ _ _ _ _)
   | (with_reducible exact ih3 _ _ _ _ _ _ _ _)
   | (with_reducible exact spec_JoinPath.mono _ _)
   | (with_reducible exact spec_ReadFile.mono _ _)
   | (with_reducible exact spec_ReadFolder.mono _ _)
   | (with_reducible exact spec_l4Get.mono _ _ _)
   | (with_reducible exact LeO.refl _)
   | (with_reducible exact LeO.none _)
   | (with_reducible refine LeO.ite ?_ ?_)
   | (with_reducible refine LeO.bind ?_ (fun _ => ?_))
   | exact ih0 _ _ _
   | exact ih1 _ _ _ _ _
   | exact ih2 _ _ _ _ _ _ _
   | exact ih3 _ _ _ _ _ _ _ _
   | exact spec_JoinPath.mono _ _
   | exact spec_ReadFile.mono _ _
   | exact spec_ReadFolder.mono _ _
   | exact spec_l4Get.mono _ _ _
   | exact LeO.none _
   | refine LeO.ite ?_ ?_
   | refine LeO.bind ?_ (fun _ => ?_)
  ·intro y0 y1 y2 y3 y4 y5 y6
   unfold spec_l11Files.l0
   repeat' first
   | (with_reducible exact ih0 _ _ _)
   | (with_reducible exact ih1 _ _ _ _ _)
   | (with_reducible exact ih2 _ _ _ _ _ _ _)
   | (with_reducible exact ih3 _ _ _ _ _ _ _ _)
   | (with_reducible exact spec_JoinPath.mono _ _)
   | (with_reducible exact spec_ReadFile.mono _ _)
   | (with_reducible exact spec_ReadFolder.mono _ _)
   | (with_reducible exact spec_l4Get.mono _ _ _)
   | (with_reducible exact LeO.refl _)
   | (with_reducible exact LeO.none _)
   | (with_reducible refine LeO.ite ?_ ?_)
   | (with_reducible refine LeO.bind ?_ (fun _ => ?_))
   | exact ih0 _ _ _
   | exact ih1 _ _ _ _ _
   | exact ih2 _ _ _ _ _ _ _
   | exact ih3 _ _ _ _ _ _ _ _
   | exact spec_JoinPath.mono _ _
   | exact spec_ReadFile.mono _ _
   | exact spec_ReadFolder.mono _ _
   | exact spec_l4Get.mono _ _ _
   | exact LeO.none _
   | refine LeO.ite ?_ ?_
   | refine LeO.bind ?_ (fun _ => ?_)
  ·intro y0 y1 y2 y3 y4 y5 y6 y7
   unfold spec_l11Files.j2
   repeat' first
   | (with_reducible exact ih0 _ _ _)
   | (with_reducible exact ih1 _ _ _ _ _)
   | (with_reducible exact ih2 _ _ _ _ _ _ _)
   | (with_reducible exact ih3 _ _ _ _ _ _ _ _)
   | (with_reducible exact spec_JoinPath.mono _ _)
   | (with_reducible exact spec_ReadFile.mono _ _)
   | (with_reducible exact spec_ReadFolder.mono _ _)
   | (with_reducible exact spec_l4Get.mono _ _ _)
   | (with_reducible exact LeO.refl _)
   | (with_reducible exact LeO.none _)
   | (with_reducible refine LeO.ite ?_ ?_)
   | (with_reducible refine LeO.bind ?_ (fun _ => ?_))
   | exact ih0 _ _ _
   | exact ih1 _ _ _ _ _
   | exact ih2 _ _ _ _ _ _ _
   | exact ih3 _ _ _ _ _ _ _ _
   | exact spec_JoinPath.mono _ _
   | exact spec_ReadFile.mono _ _
   | exact spec_ReadFolder.mono _ _
   | exact spec_l4Get.mono _ _ _
   | exact LeO.none _
   | refine LeO.ite ?_ ?_
   | refine LeO.bind ?_ (fun _ => ?_)
theorem spec_l11Files.mono : ∀ a0 a1 a2 k, LeO (spec_l11Files.f k a0 a1 a2) (spec_l11Files.f (k + 1) a0 a1 a2) := by
 intro a0 a1 a2 k
 obtain ⟨ih0, ih1, ih2, ih3⟩ := spec_l11Files.mono_l k
 exact ih0 a0 a1 a2
def spec_l11Files.T10 : Bool × List (List Nat × List Nat) := (true, [([], []), ([], []), ([], []), ([], []), ([2, 3], [2, 3]), ([4], [4]), ([5], [5]), ([], []), ([], []), ([7, 8], [7, 8]), ([], []), ([], []), ([10, 11], [10, 11]), ([12], [12]), ([13], [13]), ([14], [14]), ([9, 15, 9], [9, 15]), ([1, 6, 16, 16], [1, 6, 16]), ([0, 17, 17], [0, 17]), ([18, 18, 0, 1, 2, 3, 4, 5, 6, 7, 8, 9, 10, 11, 12, 13, 14, 15, 16, 17, 18], [0, 18])])
def spec_l11Files.B10 : List Nat := [0, 0, 0, 0, 12, 28, 60, 0, 0, 384, 0, 0, 3072, 7168, 15360, 31744, 65408, 131070, 262143, 524287]
theorem spec_l11Files.tab10 : rtab .any (opsOf Tryd.f61 10) = spec_l11Files.T10 := by kernel_rfl
theorem spec_l11Files.bits10 : waitsOk spec_l11Files.T10.2 spec_l11Files.B10 = true := by kernel_rfl
set_option maxHeartbeats 8000000 in
set_option maxRecDepth 100000 in
theorem spec_l11Files.calls (k : Nat) : ∀ (A0 : Option Addr) (c0 : Nat) (l0 : List (S58)) (a1 : Int) (A2 : Option Addr) (c2 : Nat) (l2 : List ByteArray) (r : List ByteArray) (w : World) (hr0 : Kd.C k58 w A0 l0.length l0) (hc0 : l0.length ≤ c0) (hr2 : Kd.C Kd.string w A2 l2.length l2) (hc2 : l2.length ≤ c2) (h : spec_l11Files.f k l0 a1 l2 = some r),
  Calls Tryd.prog 61 #[.slice A0 l0.length c0, .int .i64 a1, .slice A2 l2.length c2] w fun e w' => ∃ v0_ : Value, e = .returned (v0_) ∧ Kd.R Kd.string 9 w' w.heap.size (fun _ => True) v0_ r ∧ Below w.heap.size w w' := by
 induction k using Nat.strongRecOn with
 | _ k ih =>
 intro A0 c0 l0 a1 A2 c2 l2 r w hr0 hc0 hr2 hc2 h
 cases k with
 | zero => exact absurd h (by simp [spec_l11Files.f])
 | succ k =>
 simp only [spec_l11Files.f] at h
 have HR0 := Aside0.mk hr0
 have HC0 := Aside0.mk hc0
 clear hr0 hc0
 have HR2 := Aside0.mk hr2
 have HC2 := Aside0.mk hc2
 clear hr2 hc2
 have HB := Aside0.mk (Below.refl w.heap.size w)
 have H : ((spec_l4Get.f k l0 a1).bind fun bt778 => ((spec_ReadFile.f k bt778.1).bind fun bt780 => (if bt778.2 = true then (if bt780.2 = true then (spec_l11Files.j0 k l0 l2 bt778.1 bt778.2 (decide ((l2.length : Int) > 0))) else (spec_l11Files.j0 k l0 l2 bt778.1 bt778.2 false)) else (spec_l11Files.j0 k l0 l2 bt778.1 bt778.2 false)))) = some r := h
 clear h
 replace H := Option.bind_eq_some_iff.mp H
 obtain ⟨⟨t778, t779⟩, A40, H⟩ := H
 replace H : ((spec_ReadFile.f k t778).bind fun bt780 => (if t779 = true then (if bt780.2 = true then (spec_l11Files.j0 k l0 l2 t778 t779 (decide ((l2.length : Int) > 0))) else (spec_l11Files.j0 k l0 l2 t778 t779 false)) else (spec_l11Files.j0 k l0 l2 t778 t779 false))) = some r := H
 have A4 := Aside0.mk A40
 clear A40
 replace H := Option.bind_eq_some_iff.mp H
 obtain ⟨⟨t780, t781⟩, A50, H⟩ := H
 replace H : (if t779 = true then (if t781 = true then (spec_l11Files.j0 k l0 l2 t778 t779 (decide ((l2.length : Int) > 0))) else (spec_l11Files.j0 k l0 l2 t778 t779 false)) else (spec_l11Files.j0 k l0 l2 t778 t779 false)) = some r := H
 have A5 := Aside0.mk A50
 clear A50
 have HC6 := Aside0.mk H
 clear H
 go_enter Tryd.func61, Tryd.ntmps61
 go_upto_region 3 with (first | ((with_reducible refine gate_callee (f := 74) rfl ?_); refine goesL_ (some 18) rfl rfl Tryd.func74 (by kernel_rfl) rfl #[.slice A0 l0.length c0, .int .i64 a1] rfl sl_ ?_; (with_reducible refine (spec_l4Get.calls k _ _ l0 a1 t778 t779 _ ?side1 ?side2 A4.out).mono ?_); (case side1 => exact kC_ HR0.out); (case side2 => exact HC0.out); rintro e w' ⟨rfl, ⟨nd, rfl⟩⟩; refine ⟨_, rfl, ?_⟩) | ((with_reducible refine gate_callee (f := 70) rfl ?_); refine goesL_ (some 23) rfl rfl Tryd.func70 (by kernel_rfl) rfl #[.string t778] rfl sl_ ?_; (with_reducible refine (spec_ReadFile.calls k t778 t780 t781 _ A5.out).mono ?_); rintro e w' ⟨rfl, ⟨nd, rfl⟩⟩; refine ⟨_, rfl, ?_⟩))
 (try simp only [Act.put, List.setIfInBounds_toArray, List.set_cons_zero, List.set_cons_succ])
 go_cut [34] (fun v34 wc => ∃ (kq : Nat) (x34_5 : Bool), v34 = .bool x34_5 ∧ Aside0 (spec_l11Files.j0 kq l0 l2 t778 t779 x34_5 = some r) ∧ Aside0 (kq ≤ k) ∧ Aside0 (Below w.heap.size w wc))
 case first =>
  have H := HC6.out
  clear HC6
  by_cases c7 : t779 = true
  ·subst c7
   have H1 : (if t781 = true then (spec_l11Files.j0 k l0 l2 t778 true (decide ((l2.length : Int) > 0))) else (spec_l11Files.j0 k l0 l2 t778 true false)) = some r := by rw [if_pos rfl] at H; exact H
   clear H
   have H := H1
   clear H1
   by_cases c8 : t781 = true
   ·subst c8
    have H1 : (spec_l11Files.j0 k l0 l2 t778 true (decide ((l2.length : Int) > 0))) = some r := by rw [if_pos rfl] at H; exact H
    clear H
    have H := H1
    clear H1
    have H' := Aside0.mk H
    clear H
    go_wp2
    go_meet
    case rel => exact ⟨_, (decide ((l2.length : Int) > 0)), (by first | rfl | (simp; done) | (simp [*]; done)), H', ⟨by first | omega | exact Nat.le_refl _⟩, ⟨hb_⟩⟩
   ·replace c8 := Bool.eq_false_iff.mpr c8
    subst c8
    have H1 : (spec_l11Files.j0 k l0 l2 t778 true false) = some r := by rw [if_neg (show ¬ (false = true) by decide)] at H; exact H
    clear H
    have H := H1
    clear H1
    have H' := Aside0.mk H
    clear H
    go_wp2
    go_meet
    case rel => exact ⟨_, (false), (by first | rfl | (simp; done) | (simp [*]; done)), H', ⟨by first | omega | exact Nat.le_refl _⟩, ⟨hb_⟩⟩
  ·replace c7 := Bool.eq_false_iff.mpr c7
   subst c7
   have H1 : (spec_l11Files.j0 k l0 l2 t778 false false) = some r := by rw [if_neg (show ¬ (false = true) by decide)] at H; exact H
   clear H
   have H := H1
   clear H1
   have H' := Aside0.mk H
   clear H
   go_wp2
   go_meet
   case rel => exact ⟨_, (false), (by first | rfl | (simp; done) | (simp [*]; done)), H', ⟨by first | omega | exact Nat.le_refl _⟩, ⟨hb_⟩⟩
 case rest =>
  clear HC6
  try clear c2
  try clear p2
  try clear c6
  try clear c7
  try clear c8
  obtain ⟨kq, x34_5, rfl, HA, HJ5, HB⟩ := hcut
  cases kq with
  | zero => exact absurd HA.out (by simp [spec_l11Files.j0])
  | succ kj5 =>
   have H := HA.out
   clear HA
   simp only [spec_l11Files.j0] at H
   by_cases c9 : x34_5 = true
   ·subst c9
    have H1 : ((spec_JoinPath.f kj5 l2).bind fun t782 => (some (([t782] : List ByteArray)))) = some r := by rw [if_pos rfl] at H; exact H
    clear H
    have H := H1
    clear H1
    replace H := Option.bind_eq_some_iff.mp H
    obtain ⟨t782, A100, H⟩ := H
    replace H : (some (([t782] : List ByteArray))) = some r := H
    have A10 := Aside0.mk A100
    clear A100
    obtain ⟨y783, hy783⟩ : ∃ y_ : List ByteArray, y_ = (([t782] : List ByteArray)) := ⟨_, rfl⟩
    replace H : (some y783) = some r := by first | (rw [hy783]; with_reducible exact H) | (have H2_ := (Option.bind_some _ _).symm.trans H; rw [hy783]; with_reducible exact H2_) | (have H2_ := (Option.bind_some _ _).symm.trans H; with_reducible exact H2_) | with_reducible exact H | (rw [hy783]; exact H) | exact H
    have Ny783 := Aside0.mk hy783
    clear hy783
    obtain rfl := Option.some.inj H
    go_wp2_with (first | ((with_reducible refine gate_callee (f := 88) rfl ?_); refine goesL_ (some 36) rfl rfl Tryd.func88 (by kernel_rfl) rfl #[.slice A2 l2.length c2] rfl sl_ ?_; (with_reducible refine (spec_JoinPath.calls kj5 _ _ l2 t782 _ ?side1 ?side2 A10.out).mono ?_); (case side1 => exact kC_ (Kd.C_below HR2.out HB.out)); (case side2 => exact HC2.out); rintro e w' ⟨rfl, ⟨nd, rfl⟩⟩; refine ⟨_, rfl, ?_⟩) | ((with_reducible refine gate_dst (N := 37) rfl ?_); refine Kd.R_lit Kd.string _ 9 ?hg (N := 37) ?hd (xs := ([t782] : List ByteArray)) (inner := [.string t782]) (ok := fun _ => True) (okp := fun _ => True) ?hr ?hp (fun _ hk => hk) trivial (Below.refl _ _) (Nat.le_refl _) (by simp) ?_; (case hd => rfl); (case hg => rfl); (case hr => first | (go_simp; done) | (go_simp; rfl)); (case hp => exact (Reps.one (show Kd.M Kd.string _ _ _ t782 [.string t782] from rfl) (Reps.none _ _))); intro v784 w11 ho12 hb hg_ hnew_; clear hg_ hnew_; (first | rw [← Ny783.out] at ho12 | (simp only [Int.reduceToNat] at ho12; rw [← Ny783.out] at ho12)); have HO785 := Aside0.mk (Kd.R_lower ho12 (below_size hb_)); replace HB := Aside0.mk (below_step hb_ hb); clear hb ho12))
    go_ret
    exact ⟨_, er_, by (with_reducible repeat (first | apply Kd.R_alloc | apply Kd.R_drewN | apply Kd.R_drew)); exact HO785.out, hb_⟩
   ·replace c9 := Bool.eq_false_iff.mpr c9
    subst c9
    have H1 : ((spec_ReadFolder.f kj5 t778).bind fun bt789 => (spec_l11Files.l0 kj5 l0 l2 t779 (([] : List ByteArray)) bt789.1 bt789.2 0)) = some r := by rw [if_neg (show ¬ (false = true) by decide)] at H; exact H
    clear H
    have H := H1
    clear H1
    obtain ⟨y786, hy786⟩ : ∃ y_ : List ByteArray, y_ = (([] : List ByteArray)) := ⟨_, rfl⟩
    replace H : ((spec_ReadFolder.f kj5 t778).bind fun bt789 => (spec_l11Files.l0 kj5 l0 l2 t779 y786 bt789.1 bt789.2 0)) = some r := by first | (rw [hy786]; with_reducible exact H) | (have H2_ := (Option.bind_some _ _).symm.trans H; rw [hy786]; with_reducible exact H2_) | (have H2_ := (Option.bind_some _ _).symm.trans H; with_reducible exact H2_) | with_reducible exact H | (rw [hy786]; exact H) | exact H
    have Ny786 := Aside0.mk hy786
    clear hy786
    replace H := Option.bind_eq_some_iff.mp H
    obtain ⟨⟨t789, t790⟩, A130, H⟩ := H
    replace H : (spec_l11Files.l0 kj5 l0 l2 t779 y786 t789 t790 0) = some r := H
    have A13 := Aside0.mk A130
    clear A130
    have H' := Aside0.mk H
    clear H
    go_wp2_with (first | ((with_reducible refine gate_dst (N := 38) rfl ?_); refine Kd.R_lit Kd.string _ 9 ?hg (N := 38) ?hd (xs := ([] : List ByteArray)) (inner := []) (ok := fun _ => True) (okp := fun _ => True) ?hr ?hp (fun _ hk => hk) trivial (Below.refl _ _) (Nat.le_refl _) (by simp) ?_; (case hd => rfl); (case hg => rfl); (case hr => first | (go_simp; done) | (go_simp; rfl)); (case hp => exact (Reps.none _ _)); intro v787 w14 ho15 hb hg_ hnew_; clear hg_ hnew_; (first | rw [← Ny786.out] at ho15 | (simp only [Int.reduceToNat] at ho15; rw [← Ny786.out] at ho15)); have HO788 := Aside0.mk (Kd.R_lower ho15 (below_size hb_)); replace HB := Aside0.mk (below_step hb_ hb); clear hb ho15) | ((with_reducible refine gate_callee (f := 51) rfl ?_); refine goesL_ (some 41) rfl rfl Tryd.func51 (by kernel_rfl) rfl #[.string t778] rfl sl_ ?_; (with_reducible refine (spec_ReadFolder.calls kj5 t778 t789 t790 _ A13.out).mono ?_); rintro e w16 ⟨v791, rfl, ho0, hb⟩; refine ⟨_, rfl, ?_⟩; replace HO788 := Aside0.mk (Kd.R_below (kR_ HO788.out) hb); have HO792 := Aside0.mk (Kd.R_lower ho0 (below_size hb_)); replace HB := Aside0.mk (below_step hb_ hb); (try clear hb); (try clear hk); (try clear ho0)))
    go_loopg [11, 14] kj5 (fun kq v11 v14 w' => ∃ (x11_2 : List ByteArray) (x14_2 : Int), v14 = .int .i64 x14_2 ∧ Aside0 (spec_l11Files.l0 kq l0 l2 t779 x11_2 t789 t790 x14_2 = some r) ∧ Aside0 (kq ≤ kj5) ∧ Aside0 (Kd.R Kd.string 9 w' w.heap.size (fun _ => True) v11 x11_2) ∧ Aside0 (Kd.R k63 63 w' w.heap.size (fun _ => True) v791 t789) ∧ Aside0 (Below w.heap.size w w'))
    case atStart => exact ⟨(y786), (0), (by first | rfl | (simp; done) | (simp [*]; done)), H', ⟨Nat.le_refl _⟩, ⟨by (with_reducible repeat (first | apply Kd.R_alloc | apply Kd.R_drewN | apply Kd.R_drew)); exact HO788.out⟩, ⟨by (with_reducible repeat (first | apply Kd.R_alloc | apply Kd.R_drewN | apply Kd.R_drew)); exact HO792.out⟩, ⟨hb_⟩⟩
    case round =>
     clear H'
     try clear c2
     try clear p2
     try clear c5
     try clear c6
     try clear c7
     try clear c8
     try clear c9
     try clear p2
     obtain ⟨x11_2, x14_2, rfl, HA, HK2, HO_11, HO_12, HB⟩ := hrel
     cases gk with
     | zero => exact absurd HA.out (by simp [spec_l11Files.l0])
     | succ k2 =>
      have H := HA.out
      clear HA
      simp only [spec_l11Files.l0] at H
      have HC17 := Aside0.mk H
      clear H
      go_upto_region 8 with (fail)
      go_cut [58] (fun v58 wc => ∃ (kq : Nat) (x58_16 : Bool), v58 = .bool x58_16 ∧ Aside0 (spec_l11Files.j2 kq l0 l2 t779 x11_2 t789 t790 x14_2 x58_16 = some r) ∧ Aside0 (kq ≤ k2) ∧ Aside0 (Kd.R Kd.string 9 wc w.heap.size (fun _ => True) u11 x11_2) ∧ Aside0 (Kd.R k63 63 wc w.heap.size (fun _ => True) v791 t789) ∧ Aside0 (Below w.heap.size w wc))
      case first =>
       have H := HC17.out
       clear HC17
       by_cases c18 : x14_2 < (t789.length : Int)
       ·rw [if_pos c18] at H
        have c18b0 : decide (x14_2 < (t789.length : Int)) = true := decide_eq_true c18
        clear c18
        (first | rw [c18b0] | (simp only [i64_w, i32_w]; rw [c18b0]) | skip)
        by_cases c19 : t779 = true
        ·subst c19
         have H1 : (if t790 = true then (spec_l11Files.j2 k2 l0 l2 true x11_2 t789 t790 x14_2 (decide ((l2.length : Int) < 3))) else (spec_l11Files.j2 k2 l0 l2 true x11_2 t789 t790 x14_2 false)) = some r := by rw [if_pos rfl] at H; exact H
         clear H
         have H := H1
         clear H1
         by_cases c20 : t790 = true
         ·subst c20
          have H1 : (spec_l11Files.j2 k2 l0 l2 true x11_2 t789 true x14_2 (decide ((l2.length : Int) < 3))) = some r := by rw [if_pos rfl] at H; exact H
          clear H
          have H := H1
          clear H1
          have H' := Aside0.mk H
          clear H
          obtain ⟨Ao21, co21, eo21⟩ := Kd.R_slice HO_12.out
          subst eo21
          go_wp2
          go_meet
          case rel => exact ⟨_, (decide ((l2.length : Int) < 3)), (by first | rfl | (simp; done) | (simp [*]; done)), H', ⟨by have := HJ5.out; have := HK2.out; first | omega | exact Nat.le_refl _⟩, ⟨by (with_reducible repeat (first | apply Kd.R_alloc | apply Kd.R_drewN | apply Kd.R_drew)); exact HO_11.out⟩, ⟨by (with_reducible repeat (first | apply Kd.R_alloc | apply Kd.R_drewN | apply Kd.R_drew)); exact HO_12.out⟩, ⟨hb_⟩⟩
         ·replace c20 := Bool.eq_false_iff.mpr c20
          subst c20
          have H1 : (spec_l11Files.j2 k2 l0 l2 true x11_2 t789 false x14_2 false) = some r := by rw [if_neg (show ¬ (false = true) by decide)] at H; exact H
          clear H
          have H := H1
          clear H1
          have H' := Aside0.mk H
          clear H
          obtain ⟨Ao22, co22, eo22⟩ := Kd.R_slice HO_12.out
          subst eo22
          go_wp2
          go_meet
          case rel => exact ⟨_, (false), (by first | rfl | (simp; done) | (simp [*]; done)), H', ⟨by have := HJ5.out; have := HK2.out; first | omega | exact Nat.le_refl _⟩, ⟨by (with_reducible repeat (first | apply Kd.R_alloc | apply Kd.R_drewN | apply Kd.R_drew)); exact HO_11.out⟩, ⟨by (with_reducible repeat (first | apply Kd.R_alloc | apply Kd.R_drewN | apply Kd.R_drew)); exact HO_12.out⟩, ⟨hb_⟩⟩
        ·replace c19 := Bool.eq_false_iff.mpr c19
         subst c19
         have H1 : (spec_l11Files.j2 k2 l0 l2 false x11_2 t789 t790 x14_2 false) = some r := by rw [if_neg (show ¬ (false = true) by decide)] at H; exact H
         clear H
         have H := H1
         clear H1
         have H' := Aside0.mk H
         clear H
         obtain ⟨Ao23, co23, eo23⟩ := Kd.R_slice HO_12.out
         subst eo23
         go_wp2
         go_meet
         case rel => exact ⟨_, (false), (by first | rfl | (simp; done) | (simp [*]; done)), H', ⟨by have := HJ5.out; have := HK2.out; first | omega | exact Nat.le_refl _⟩, ⟨by (with_reducible repeat (first | apply Kd.R_alloc | apply Kd.R_drewN | apply Kd.R_drew)); exact HO_11.out⟩, ⟨by (with_reducible repeat (first | apply Kd.R_alloc | apply Kd.R_drewN | apply Kd.R_drew)); exact HO_12.out⟩, ⟨hb_⟩⟩
       ·rw [if_neg c18] at H
        have c18b0 : decide (x14_2 < (t789.length : Int)) = false := decide_eq_false c18
        clear c18
        (first | rw [c18b0] | (simp only [i64_w, i32_w]; rw [c18b0]) | skip)
        have H' := Aside0.mk H
        clear H
        obtain ⟨Ao24, co24, eo24⟩ := Kd.R_slice HO_12.out
        subst eo24
        go_wp2
        go_meet
        case rel => exact ⟨_, (false), (by first | rfl | (simp; done) | (simp [*]; done)), H', ⟨by have := HJ5.out; have := HK2.out; first | omega | exact Nat.le_refl _⟩, ⟨by (with_reducible repeat (first | apply Kd.R_alloc | apply Kd.R_drewN | apply Kd.R_drew)); exact HO_11.out⟩, ⟨by (with_reducible repeat (first | apply Kd.R_alloc | apply Kd.R_drewN | apply Kd.R_drew)); exact HO_12.out⟩, ⟨hb_⟩⟩
      case rest =>
       clear HC17
       try clear c1
       try clear c2
       try clear p2
       try clear c5
       try clear c6
       try clear c7
       try clear c8
       try clear c9
       try clear c18
       try clear c18b0
       try clear c19
       try clear c20
       try clear p2
       obtain ⟨kq, x58_16, rfl, HA, HJ16, HO_11, HO_12, HB⟩ := hcut
       cases kq with
       | zero => exact absurd HA.out (by simp [spec_l11Files.j2])
       | succ kj16 =>
        have H := HA.out
        clear HA
        simp only [spec_l11Files.j2] at H
        by_cases c25 : x58_16 = true
        ·subst c25
         have H1 : (if 0 ≤ x14_2 then (if x14_2 < (t789.length : Int) then ((some (([] : List ByteArray) : List ByteArray)).bind fun y794 => (if y794.length + l2.length < 8796093022208 then ((some (y794 ++ l2 : List ByteArray)).bind fun y797 => ((some (([(rd_T63 t789 x14_2).f0] : List ByteArray) : List ByteArray)).bind fun y801 => (if y797.length + y801.length < 8796093022208 then ((spec_l11Files.f kj16 l0 ((rd_T63 t789 x14_2).f1) (y797 ++ y801)).bind fun t807 => (if x11_2.length + t807.length < 8796093022208 then (spec_l11Files.l0 kj16 l0 l2 t779 (x11_2 ++ t807) t789 t790 (wrap64 (x14_2 + 1))) else (none))) else (none)))) else (none))) else (none)) else (none)) = some r := by rw [if_pos rfl] at H; exact H
         clear H
         have H := H1
         clear H1
         by_cases c26 : 0 ≤ x14_2
         ·rw [if_pos c26] at H
          have c26b0 : decide (0 ≤ x14_2) = true := decide_eq_true c26
          clear c26
          by_cases c27 : x14_2 < (t789.length : Int)
          ·rw [if_pos c27] at H
           have c27b0 : decide (x14_2 < (t789.length : Int)) = true := decide_eq_true c27
           clear c27
           obtain ⟨y794, hy794⟩ : ∃ y_ : List ByteArray, y_ = (([] : List ByteArray)) := ⟨_, rfl⟩
           replace H : (if y794.length + l2.length < 8796093022208 then ((some (y794 ++ l2 : List ByteArray)).bind fun y797 => ((some (([(rd_T63 t789 x14_2).f0] : List ByteArray) : List ByteArray)).bind fun y801 => (if y797.length + y801.length < 8796093022208 then ((spec_l11Files.f kj16 l0 ((rd_T63 t789 x14_2).f1) (y797 ++ y801)).bind fun t807 => (if x11_2.length + t807.length < 8796093022208 then (spec_l11Files.l0 kj16 l0 l2 t779 (x11_2 ++ t807) t789 t790 (wrap64 (x14_2 + 1))) else (none))) else (none)))) else (none)) = some r := by first | (rw [hy794]; with_reducible exact H) | (have H2_ := (Option.bind_some _ _).symm.trans H; rw [hy794]; with_reducible exact H2_) | (have H2_ := (Option.bind_some _ _).symm.trans H; with_reducible exact H2_) | with_reducible exact H | (rw [hy794]; exact H) | exact H
           have Ny794 := Aside0.mk hy794
           clear hy794
           by_cases c28 : y794.length + l2.length < 8796093022208
           ·rw [if_pos c28] at H
            have LMc28 := Aside0.mk c28
            clear c28
            obtain ⟨y797, hy797⟩ : ∃ y_ : List ByteArray, y_ = (y794 ++ l2) := ⟨_, rfl⟩
            replace H : ((some (([(rd_T63 t789 x14_2).f0] : List ByteArray) : List ByteArray)).bind fun y801 => (if y797.length + y801.length < 8796093022208 then ((spec_l11Files.f kj16 l0 ((rd_T63 t789 x14_2).f1) (y797 ++ y801)).bind fun t807 => (if x11_2.length + t807.length < 8796093022208 then (spec_l11Files.l0 kj16 l0 l2 t779 (x11_2 ++ t807) t789 t790 (wrap64 (x14_2 + 1))) else (none))) else (none))) = some r := by first | (rw [hy797]; with_reducible exact H) | (have H2_ := (Option.bind_some _ _).symm.trans H; rw [hy797]; with_reducible exact H2_) | (have H2_ := (Option.bind_some _ _).symm.trans H; with_reducible exact H2_) | with_reducible exact H | (rw [hy797]; exact H) | exact H
            have Ny797 := Aside0.mk hy797
            clear hy797
            obtain ⟨y801, hy801⟩ : ∃ y_ : List ByteArray, y_ = (([(rd_T63 t789 x14_2).f0] : List ByteArray)) := ⟨_, rfl⟩
            replace H : (if y797.length + y801.length < 8796093022208 then ((spec_l11Files.f kj16 l0 ((rd_T63 t789 x14_2).f1) (y797 ++ y801)).bind fun t807 => (if x11_2.length + t807.length < 8796093022208 then (spec_l11Files.l0 kj16 l0 l2 t779 (x11_2 ++ t807) t789 t790 (wrap64 (x14_2 + 1))) else (none))) else (none)) = some r := by first | (rw [hy801]; with_reducible exact H) | (have H2_ := (Option.bind_some _ _).symm.trans H; rw [hy801]; with_reducible exact H2_) | (have H2_ := (Option.bind_some _ _).symm.trans H; with_reducible exact H2_) | with_reducible exact H | (rw [hy801]; exact H) | exact H
            have Ny801 := Aside0.mk hy801
            clear hy801
            by_cases c29 : y797.length + y801.length < 8796093022208
            ·rw [if_pos c29] at H
             have LMc29 := Aside0.mk c29
             clear c29
             obtain ⟨y804, hy804⟩ : ∃ y_ : List ByteArray, y_ = (y797 ++ y801) := ⟨_, rfl⟩
             replace H : ((spec_l11Files.f kj16 l0 ((rd_T63 t789 x14_2).f1) y804).bind fun t807 => (if x11_2.length + t807.length < 8796093022208 then (spec_l11Files.l0 kj16 l0 l2 t779 (x11_2 ++ t807) t789 t790 (wrap64 (x14_2 + 1))) else (none))) = some r := by first | (rw [hy804]; with_reducible exact H) | (have H2_ := (Option.bind_some _ _).symm.trans H; rw [hy804]; with_reducible exact H2_) | (have H2_ := (Option.bind_some _ _).symm.trans H; with_reducible exact H2_) | with_reducible exact H | (rw [hy804]; exact H) | exact H
             have Ny804 := Aside0.mk hy804
             clear hy804
             replace H := Option.bind_eq_some_iff.mp H
             obtain ⟨t807, A300, H⟩ := H
             replace H : (if x11_2.length + t807.length < 8796093022208 then (spec_l11Files.l0 kj16 l0 l2 t779 (x11_2 ++ t807) t789 t790 (wrap64 (x14_2 + 1))) else (none)) = some r := H
             have A30 := Aside0.mk A300
             clear A300
             by_cases c31 : x11_2.length + t807.length < 8796093022208
             ·rw [if_pos c31] at H
              have LMc31 := Aside0.mk c31
              clear c31
              obtain ⟨y810, hy810⟩ : ∃ y_ : List ByteArray, y_ = (x11_2 ++ t807) := ⟨_, rfl⟩
              replace H : (spec_l11Files.l0 kj16 l0 l2 t779 y810 t789 t790 (wrap64 (x14_2 + 1))) = some r := by first | (rw [hy810]; with_reducible exact H) | (have H2_ := (Option.bind_some _ _).symm.trans H; rw [hy810]; with_reducible exact H2_) | (have H2_ := (Option.bind_some _ _).symm.trans H; with_reducible exact H2_) | with_reducible exact H | (rw [hy810]; exact H) | exact H
              have Ny810 := Aside0.mk hy810
              clear hy810
              have H' := Aside0.mk H
              clear H
              obtain ⟨Ao32, co32, eo32⟩ := Kd.R_slice HO_11.out
              subst eo32
              try go_wp2
              have n0_ := Aside0.mk (Kd.R_drew HO_11.out)
              have n1_ := Aside0.mk (Kd.R_drew HO_12.out)
              have n2_ := Aside0.mk (below_drew1 HB.out)
              clear HO_11
              clear HO_12
              clear HB
              have HO_11 := n0_
              have HO_12 := n1_
              have HB := n2_
              clear n0_ n1_ n2_
              obtain ⟨Ao34, co34, eo34⟩ := Kd.R_slice HO_12.out
              (first | subst eo34 | (injection eo34 with f1_ f2_ f3_; have f4_ := f1_.symm; have f5_ := f3_.symm; clear f1_ f2_ f3_; subst f4_; subst f5_))
              have p793 : 0 ≤ (x14_2 : Int) := of_decide_eq_true ma_
              have q793 : x14_2 < (t789.length : Int) := of_decide_eq_true ma_
              obtain ⟨ad793, e793, hx793_0, hx793_1⟩ := at_T63 (Kd.R_reads' HO_12.out).2.2 x14_2 p793 q793
              cases e793
              replace p793 := eq_true p793
              replace q793 := eq_true q793
              have p800 : 0 ≤ (x14_2 : Int) := of_decide_eq_true ma_
              have q800 : x14_2 < (t789.length : Int) := of_decide_eq_true ma_
              obtain ⟨ad800, e800, hx800_0, hx800_1⟩ := at_T63 (Kd.R_reads' HO_12.out).2.2 x14_2 p800 q800
              obtain rfl : ad793 = ad800 := (by injection e800)
              replace p800 := eq_true p800
              replace q800 := eq_true q800
              refine start_ (n := 20) (S := fun w' => w'.cell? (ad793.add ((x14_2).toNat * 2)) = some (.string ((rd_T63 t789 x14_2).f0)) ∧ w'.cell? ⟨(ad793.add ((x14_2).toNat * 2)).block, (ad793.add ((x14_2).toNat * 2)).off + 1, none⟩ = some (.int .i64 ((rd_T63 t789 x14_2).f1)) ∧ w'.cell? (ad793.add ((x14_2).toNat * 2)) = some (.string ((rd_T63 t789 x14_2).f0)) ∧ w'.cell? ⟨(ad793.add ((x14_2).toNat * 2)).block, (ad793.add ((x14_2).toNat * 2)).off + 1, none⟩ = some (.int .i64 ((rd_T63 t789 x14_2).f1))) (ds := []) (tf_ 0 20) (by kernel_rfl) rfl rfl ⟨hx793_0, hx793_1, hx800_0, hx800_1⟩ (fun hHeld => ?_); refine with_tabW spec_l11Files.tab10 spec_l11Files.bits10 (fun HT_ HW_ => ?_)
              generalize wc.drew = w33 at HO_11 HO_12 HB hx793_0 hx793_1 hx800_0 hx800_1 hHeld ⊢
              refine pa_ (i := 0) (N := some 61) (tf_ 1 19) ?_
              refine pa_ (i := 1) (N := some 62) (tf_ 2 18) ?_
              refine pa_ (i := 2) (N := some 63) (tf_ 3 17) ?_
              refine pa_ (i := 3) (N := some 64) (tf_ 4 16) ?_
              refine pa_ (i := 4) (N := some 65) (tf_ 5 15) ?_
              refine pa_ (i := 5) (N := some 66) (tf_ 6 14) ?_
              refine pure_ (i := 8) (N := some 69) (v := ?_) (a' := ?_) #[true, true, true, true, true, true, false, false, true, false, false, false, false, false, false, false, false, false, false, false] rfl rfl (any_of HT_.out (by kernel_rfl)) (fun _ _ _ h => h) (Or.inl ⟨by rfl, ?_⟩) ?_ ?_; rotate_left; (intro w'; go_simp; with_reducible rfl); rotate_left; (simp only [Act.put, List.setIfInBounds_toArray, List.set_cons_zero, List.set_cons_succ, i64_w, i32_w]; rfl)
              refine pure_ (i := 10) (N := some 71) (v := ?_) (a' := ?_) #[true, true, true, true, true, true, false, false, true, false, true, false, false, false, false, false, false, false, false, false] rfl rfl (any_of HT_.out (by kernel_rfl)) (fun _ _ _ h => h) (Or.inl ⟨by rfl, ?_⟩) ?_ ?_; rotate_left; (intro w'; go_simp; with_reducible rfl); rotate_left; (simp only [Act.put, List.setIfInBounds_toArray, List.set_cons_zero, List.set_cons_succ, i64_w, i32_w]; rfl)
              refine pure_ (i := 11) (N := some 72) (v := ?_) (a' := ?_) #[true, true, true, true, true, true, false, false, true, false, true, true, false, false, false, false, false, false, false, false] rfl rfl (any_of HT_.out (by kernel_rfl)) (fun _ _ _ h => h) (Or.inl ⟨by rfl, ?_⟩) ?_ ?_; rotate_left; (intro w'; go_simp; with_reducible rfl); rotate_left; (simp only [Act.put, List.setIfInBounds_toArray, List.set_cons_zero, List.set_cons_succ, i64_w, i32_w]; rfl)
              refine pure_ (i := 12) (N := some 73) (v := ?_) (a' := ?_) #[true, true, true, true, true, true, false, false, true, false, true, true, true, false, false, false, false, false, false, false] rfl rfl (any_of HT_.out (by kernel_rfl)) (fun _ _ _ h => h) (Or.inl ⟨by rfl, ?_⟩) ?_ ?_; rotate_left; (intro w'; go_simp; with_reducible rfl); rotate_left; (simp only [Act.put, List.setIfInBounds_toArray, List.set_cons_zero, List.set_cons_succ, i64_w, i32_w]; rfl)
              refine pure_ (i := 13) (N := some 74) (v := ?_) (a' := ?_) #[true, true, true, true, true, true, false, false, true, false, true, true, true, true, false, false, false, false, false, false] rfl rfl (any_of HT_.out (by kernel_rfl)) (fun _ _ _ h => h) (Or.inl ⟨by rfl, ?_⟩) ?_ ?_; rotate_left; (intro w'; go_simp; with_reducible rfl); rotate_left; (simp only [Act.put, List.setIfInBounds_toArray, List.set_cons_zero, List.set_cons_succ, i64_w, i32_w]; rfl)
              refine take_ (i := 6) (N := some 67) (v := ?_) (a' := ?_) #[true, true, true, true, true, true, true, false, true, false, true, true, true, true, false, false, false, false, false, false] rfl rfl (take_ofW HT_.out HW_.out (by kernel_rfl)) (fun _ _ _ h => h) (Or.inl ⟨by rfl, ?_⟩) hHeld ?_ ?_
              rotate_left
              ·rintro w' ⟨s0, s1, s2, s3⟩
               go_simp
               with_reducible rfl
              rotate_left
              ·simp only [Act.put, List.setIfInBounds_toArray, List.set_cons_zero, List.set_cons_succ, i64_w, i32_w]
               rfl
              refine take_ (i := 14) (N := some 75) (v := ?_) (a' := ?_) #[true, true, true, true, true, true, true, false, true, false, true, true, true, true, true, false, false, false, false, false] rfl rfl (take_ofW HT_.out HW_.out (by kernel_rfl)) (fun _ _ _ h => h) (Or.inl ⟨by rfl, ?_⟩) hHeld ?_ ?_
              rotate_left
              ·rintro w' ⟨s0, s1, s2, s3⟩
               go_simp
               with_reducible rfl
              rotate_left
              ·simp only [Act.put, List.setIfInBounds_toArray, List.set_cons_zero, List.set_cons_succ, i64_w, i32_w]
               rfl
              refine join_ (σ := Value × Value × Value) 4 (tf_ 16 4) (fun s_ => [(68, s_.1), (70, s_.2.1), (76, s_.2.2)]) (fun s_ w' => (w'.cell? (ad793.add ((x14_2).toNat * 2)) = some (.string ((rd_T63 t789 x14_2).f0)) ∧ w'.cell? ⟨(ad793.add ((x14_2).toNat * 2)).block, (ad793.add ((x14_2).toNat * 2)).off + 1, none⟩ = some (.int .i64 ((rd_T63 t789 x14_2).f1)) ∧ w'.cell? (ad793.add ((x14_2).toNat * 2)) = some (.string ((rd_T63 t789 x14_2).f0)) ∧ w'.cell? ⟨(ad793.add ((x14_2).toNat * 2)).block, (ad793.add ((x14_2).toNat * 2)).off + 1, none⟩ = some (.int .i64 ((rd_T63 t789 x14_2).f1))) ∧ (Kd.R Kd.string 9 w' w.heap.size (fun k_ => some k_ ≠ (s_.2.2 : Value).ownBlock ∧ some k_ ≠ (.slice Ao32 x11_2.length co32 : Value).ownBlock) s_.2.1 y797) ∧ (Kd.R Kd.string 9 w' w.heap.size (fun k_ => some k_ ≠ (s_.2.1 : Value).ownBlock ∧ some k_ ≠ (.slice Ao32 x11_2.length co32 : Value).ownBlock) s_.2.2 y801) ∧ (Kd.R Kd.string 9 w' w.heap.size (fun k_ => some k_ ≠ (s_.2.1 : Value).ownBlock ∧ some k_ ≠ (s_.2.2 : Value).ownBlock) (.slice Ao32 x11_2.length co32) x11_2) ∧ (Kd.R k63 63 w' w.heap.size (fun _ => True) (.slice (some ad793) t789.length co34) t789) ∧ (Below w.heap.size w w')) ?_ ?_
              rotate_left
              ·intro hCont
               refine two_ (i := 7) (j := 15) (Ni := some 68) (Nj := some 76) #[true, true, true, true, true, true, true, true, true, false, true, true, true, true, true, false, false, false, false, false] #[true, true, true, true, true, true, true, false, true, false, true, true, true, true, true, true, false, false, false, false] rfl rfl rfl rfl (two_of HT_.out (by kernel_rfl)) (by decide) (by decide) (fun K hK => ?_) (fun K hK => ?_)
               ·skip
                refine Kd.R_lit_step Kd.string _ 9 ?hg (N := 68) ?hd (xs := ([] : List ByteArray)) (inner := []) (ok := fun _ => True) (okp := fun _ => True) ?hr ?hp (fun _ hk => hk) trivial (Below.refl _ _) (Nat.le_refl _) (by simp) ?_; (case hd => rfl); (case hg => rfl); (case hr => first | (go_simp; done) | (go_simp; rfl)); (case hp => exact (Reps.none _ _))
                intro v795 w35 ho36 hb hg_ hnew_
                have HS0_ := (hb.cell (World.block_lt_of_cell? _ _ (hHeld.1))).trans (hHeld.1)
                have HS1_ := (hb.cell (World.block_lt_of_cell? _ _ (hHeld.2.1))).trans (hHeld.2.1)
                have HS2_ := (hb.cell (World.block_lt_of_cell? _ _ (hHeld.2.2.1))).trans (hHeld.2.2.1)
                have HS3_ := (hb.cell (World.block_lt_of_cell? _ _ (hHeld.2.2.2))).trans (hHeld.2.2.2)
                clear hg_ hnew_
                (first | rw [← Ny794.out] at ho36 | (simp only [Int.reduceToNat] at ho36; rw [← Ny794.out] at ho36))
                have n0_ := Aside0.mk (Kd.R_elder' (kR_ HO_11.out) (Kd.R_base ho36) hb)
                have n1_ := Aside0.mk (Kd.R_below (kR_ HO_12.out) hb)
                have n2_ := Aside0.mk (Kd.R_lower (Kd.R_new' ho36 (Kd.R_lt (kR_ HO_11.out))) (below_size hb_))
                have n3_ := Aside0.mk (below_step hb_ hb)
                clear HO_11
                clear HO_12
                clear HB
                have HO_11 := n0_
                have HO_12 := n1_
                have HO796 := n2_
                have HB := n3_
                clear n0_ n1_ n2_ n3_
                clear hb ho36
                refine hK.out _ _ ⟨HS0_, HS1_, HS2_, HS3_⟩ (fun hHeld => ?_)
                clear hK K
                refine norm_ (a' := ?_) ?_ ?_
                rotate_left
                ·show Act.put _ (some 68) _ = _
                 simp only [Act.put, List.setIfInBounds_toArray, List.set_cons_zero, List.set_cons_succ, i64_w, i32_w]
                 rfl
                refine two_ (i := 9) (j := 15) (Ni := some 70) (Nj := some 76) (tf_ 15 5) #[true, true, true, true, true, true, true, true, true, false, true, true, true, true, true, true, false, false, false, false] rfl rfl rfl rfl (two_of HT_.out (by kernel_rfl)) (by decide) (by decide) (fun K hK => ?_) (fun K hK => ?_)
                ·skip
                 refine Kd.R_append_rows_step Kd.string (w0 := w) w.heap.size (by rfl) (.tmp 68) (.tmp 69) 44 9 (.string ⟨#[]⟩) 16 rfl Tryd.underlying44 info9 rfl (by decide) (by omega) v795 y794 l2 _ _ _ (fun k_ => some k_ ≠ (.slice Ao32 x11_2.length co32 : Value).ownBlock) (fun _ => False) rfl rfl ?aO ?aR (fun _ _ h => h) (fun _ h => h.elim) ?aF ?aB ?aS ?aL ?_
                 (case aR => repeat (first | exact (Kd.C_below HR2.out HB.out) | (with_reducible refine Kd.C_alloc ?_ _) | (with_reducible refine Kd.C_drewN ?_ _) | (with_reducible refine Kd.C_drew ?_)))
                 (case aB => exact hb_)
                 (case aF => exact (fun k_ hk => Kd.fresh' (Kd.R_lt (kR_ HO_11.out)) k_ hk))
                 (case aO => exact (by (with_reducible repeat (first | apply Kd.R_alloc | apply Kd.R_drewN | apply Kd.R_drew)); exact Kd.R_mono HO796.out (fun _ hk => hk.2)))
                 (case aS => exact (below_size hb_))
                 (case aL => have := LMc28.out; omega)
                 intro v798 w37 ho hb hg hat
                 rw [← Ny797.out] at ho
                 have n0_ := Aside0.mk (Kd.R_after (ok := (fun _ => True)) (kR_ HO_11.out) hg hat)
                 have n1_ := Aside0.mk (Kd.R_over' (kR_ HO_12.out) (Kd.R_typed (kR_ HO796.out)) (by decide) hg)
                 have n2_ := Aside0.mk (hb)
                 have n3_ := Aside0.mk (ho)
                 clear HO_11
                 clear HO_12
                 clear HB
                 clear HO796
                 have HO_11 := n0_
                 have HO_12 := n1_
                 have HB := n2_
                 have HO799 := n3_
                 clear n0_ n1_ n2_ n3_
                 clear ho hb hg hat
                 obtain ⟨adz0_, ez0_, HZ0_0_, HZ0_1_⟩ := at_T63 (Kd.R_reads' HO_12.out).2.2 x14_2 (by first | exact p793 | exact of_eq_true p793) (by first | exact q793 | exact of_eq_true q793)
                 cases ez0_
                 obtain ⟨adz1_, ez1_, HZ1_0_, HZ1_1_⟩ := at_T63 (Kd.R_reads' HO_12.out).2.2 x14_2 (by first | exact p800 | exact of_eq_true p800) (by first | exact q800 | exact of_eq_true q800)
                 cases ez1_
                 refine hK.out _ _ ⟨HZ0_0_, HZ0_1_, HZ1_0_, HZ1_1_⟩ (fun hHeld => ?_)
                 clear hK K
                 refine norm_ (a' := ?_) ?_ ?_
                 rotate_left
                 ·show Act.put _ (some 70) _ = _
                  simp only [Act.put, List.setIfInBounds_toArray, List.set_cons_zero, List.set_cons_succ, i64_w, i32_w]
                  rfl
                 refine one_ (i := 15) (N := some 76) (tf_ 16 4) rfl rfl (one_of HT_.out (by kernel_rfl)) (by decide) (fun K hK => ?_)
                 refine Kd.R_lit_step Kd.string _ 9 ?hg (N := 76) ?hd (xs := ([(rd_T63 t789 x14_2).f0] : List ByteArray)) (inner := [.string ((rd_T63 t789 x14_2).f0)]) (ok := fun _ => True) (okp := fun _ => True) ?hr ?hp (fun _ hk => hk) trivial (Below.refl _ _) (Nat.le_refl _) (by simp) ?_; (case hd => rfl); (case hg => rfl); (case hr => first | (go_simp; done) | (go_simp; rfl)); (case hp => exact (Reps.one (show Kd.M Kd.string _ _ _ ((rd_T63 t789 x14_2).f0) [.string ((rd_T63 t789 x14_2).f0)] from rfl) (Reps.none _ _)))
                 intro v802 w38 ho39 hb hg_ hnew_
                 have HS0_ := (hb.cell (World.block_lt_of_cell? _ _ (hHeld.1))).trans (hHeld.1)
                 have HS1_ := (hb.cell (World.block_lt_of_cell? _ _ (hHeld.2.1))).trans (hHeld.2.1)
                 have HS2_ := (hb.cell (World.block_lt_of_cell? _ _ (hHeld.2.2.1))).trans (hHeld.2.2.1)
                 have HS3_ := (hb.cell (World.block_lt_of_cell? _ _ (hHeld.2.2.2))).trans (hHeld.2.2.2)
                 clear hg_ hnew_
                 (first | rw [← Ny801.out] at ho39 | (simp only [Int.reduceToNat] at ho39; rw [← Ny801.out] at ho39))
                 have n0_ := Aside0.mk (Kd.R_elder' (kR_ HO_11.out) (Kd.R_base ho39) hb)
                 have n1_ := Aside0.mk (Kd.R_below (kR_ HO_12.out) hb)
                 have n2_ := Aside0.mk (Kd.R_elder' (kR_ HO799.out) (Kd.R_base ho39) hb)
                 have n3_ := Aside0.mk (Kd.R_lower (Kd.R_new' (Kd.R_new' ho39 (Kd.R_lt (kR_ HO_11.out))) (Kd.R_lt (kR_ HO799.out))) (below_size hb_))
                 have n4_ := Aside0.mk (below_step hb_ hb)
                 clear HO_11
                 clear HO_12
                 clear HO799
                 clear HB
                 have HO_11 := n0_
                 have HO_12 := n1_
                 have HO799 := n2_
                 have HO803 := n3_
                 have HB := n4_
                 clear n0_ n1_ n2_ n3_ n4_
                 clear hb ho39
                 refine hK.out _ _ ⟨HS0_, HS1_, HS2_, HS3_⟩ (fun hHeld => ?_)
                 clear hK K
                 refine norm_ (a' := ?_) ?_ ?_
                 rotate_left
                 ·show Act.put _ (some 76) _ = _
                  simp only [Act.put, List.setIfInBounds_toArray, List.set_cons_zero, List.set_cons_succ, i64_w, i32_w]
                  rfl
                 exact norm_ (by simp only [putAll, Act.put, List.setIfInBounds_toArray, List.set_cons_zero, List.set_cons_succ]) (hCont (v795, v798, v802) _ ⟨hHeld, (by (with_reducible repeat (first | apply Kd.R_alloc | apply Kd.R_drewN | apply Kd.R_drew)); exact Kd.R_mono HO799.out (fun _ hk => ⟨hk.2, hk.1⟩)), (by (with_reducible repeat (first | apply Kd.R_alloc | apply Kd.R_drewN | apply Kd.R_drew)); exact Kd.R_mono HO803.out (fun _ hk => ⟨hk.2, hk.1.2⟩)), (by (with_reducible repeat (first | apply Kd.R_alloc | apply Kd.R_drewN | apply Kd.R_drew)); exact Kd.R_mono HO_11.out (fun _ hk => ⟨hk.1.2, hk.2⟩)), (kR_ HO_12.out), hb_⟩)
                ·skip
                 refine Kd.R_lit_step Kd.string _ 9 ?hg (N := 76) ?hd (xs := ([(rd_T63 t789 x14_2).f0] : List ByteArray)) (inner := [.string ((rd_T63 t789 x14_2).f0)]) (ok := fun _ => True) (okp := fun _ => True) ?hr ?hp (fun _ hk => hk) trivial (Below.refl _ _) (Nat.le_refl _) (by simp) ?_; (case hd => rfl); (case hg => rfl); (case hr => first | (go_simp; done) | (go_simp; rfl)); (case hp => exact (Reps.one (show Kd.M Kd.string _ _ _ ((rd_T63 t789 x14_2).f0) [.string ((rd_T63 t789 x14_2).f0)] from rfl) (Reps.none _ _)))
                 intro v802 w37 ho38 hb hg_ hnew_
                 have HS0_ := (hb.cell (World.block_lt_of_cell? _ _ (hHeld.1))).trans (hHeld.1)
                 have HS1_ := (hb.cell (World.block_lt_of_cell? _ _ (hHeld.2.1))).trans (hHeld.2.1)
                 have HS2_ := (hb.cell (World.block_lt_of_cell? _ _ (hHeld.2.2.1))).trans (hHeld.2.2.1)
                 have HS3_ := (hb.cell (World.block_lt_of_cell? _ _ (hHeld.2.2.2))).trans (hHeld.2.2.2)
                 clear hg_ hnew_
                 (first | rw [← Ny801.out] at ho38 | (simp only [Int.reduceToNat] at ho38; rw [← Ny801.out] at ho38))
                 have n0_ := Aside0.mk (Kd.R_elder' (kR_ HO_11.out) (Kd.R_base ho38) hb)
                 have n1_ := Aside0.mk (Kd.R_below (kR_ HO_12.out) hb)
                 have n2_ := Aside0.mk (Kd.R_elder' (kR_ HO796.out) (Kd.R_base ho38) hb)
                 have n3_ := Aside0.mk (Kd.R_lower (Kd.R_new' (Kd.R_new' ho38 (Kd.R_lt (kR_ HO_11.out))) (Kd.R_lt (kR_ HO796.out))) (below_size hb_))
                 have n4_ := Aside0.mk (below_step hb_ hb)
                 clear HO_11
                 clear HO_12
                 clear HO796
                 clear HB
                 have HO_11 := n0_
                 have HO_12 := n1_
                 have HO796 := n2_
                 have HO803 := n3_
                 have HB := n4_
                 clear n0_ n1_ n2_ n3_ n4_
                 clear hb ho38
                 refine hK.out _ _ ⟨HS0_, HS1_, HS2_, HS3_⟩ (fun hHeld => ?_)
                 clear hK K
                 refine norm_ (a' := ?_) ?_ ?_
                 rotate_left
                 ·show Act.put _ (some 76) _ = _
                  simp only [Act.put, List.setIfInBounds_toArray, List.set_cons_zero, List.set_cons_succ, i64_w, i32_w]
                  rfl
                 refine one_ (i := 9) (N := some 70) (tf_ 16 4) rfl rfl (one_of HT_.out (by kernel_rfl)) (by decide) (fun K hK => ?_)
                 refine Kd.R_append_rows_step Kd.string (w0 := w) w.heap.size (by rfl) (.tmp 68) (.tmp 69) 44 9 (.string ⟨#[]⟩) 16 rfl Tryd.underlying44 info9 rfl (by decide) (by omega) v795 y794 l2 _ _ _ (fun k_ => some k_ ≠ (.slice Ao32 x11_2.length co32 : Value).ownBlock ∧ some k_ ≠ (v802 : Value).ownBlock) (fun _ => False) rfl rfl ?aO ?aR (fun _ _ h => h) (fun _ h => h.elim) ?aF ?aB ?aS ?aL ?_
                 (case aR => repeat (first | exact (Kd.C_below HR2.out HB.out) | (with_reducible refine Kd.C_alloc ?_ _) | (with_reducible refine Kd.C_drewN ?_ _) | (with_reducible refine Kd.C_drew ?_)))
                 (case aB => exact hb_)
                 (case aF => exact (fun k_ hk => ⟨Kd.fresh' (Kd.R_lt (kR_ HO_11.out)) k_ hk, Kd.fresh' (Kd.R_lt (kR_ HO803.out)) k_ hk⟩))
                 (case aO => exact (by (with_reducible repeat (first | apply Kd.R_alloc | apply Kd.R_drewN | apply Kd.R_drew)); exact Kd.R_mono HO796.out (fun _ hk => ⟨hk.1.2, hk.2⟩)))
                 (case aS => exact (below_size hb_))
                 (case aL => have := LMc28.out; omega)
                 intro v798 w39 ho hb hg hat
                 rw [← Ny797.out] at ho
                 have n0_ := Aside0.mk (Kd.R_after (ok := (fun k_ => some k_ ≠ (v802 : Value).ownBlock)) (by (with_reducible repeat (first | apply Kd.R_alloc | apply Kd.R_drewN | apply Kd.R_drew)); exact Kd.R_mono HO_11.out (fun _ hk => ⟨hk.2, hk.1.2⟩)) hg hat)
                 have n1_ := Aside0.mk (Kd.R_over' (kR_ HO_12.out) (Kd.R_typed (kR_ HO796.out)) (by decide) hg)
                 have n2_ := Aside0.mk (Kd.R_after (ok := (fun k_ => some k_ ≠ (.slice Ao32 x11_2.length co32 : Value).ownBlock)) (by (with_reducible repeat (first | apply Kd.R_alloc | apply Kd.R_drewN | apply Kd.R_drew)); exact Kd.R_mono HO803.out (fun _ hk => ⟨hk.1.2, hk.2⟩)) hg hat)
                 have n3_ := Aside0.mk (hb)
                 have n4_ := Aside0.mk (ho)
                 clear HO_11
                 clear HO_12
                 clear HO803
                 clear HB
                 clear HO796
                 have HO_11 := n0_
                 have HO_12 := n1_
                 have HO803 := n2_
                 have HB := n3_
                 have HO799 := n4_
                 clear n0_ n1_ n2_ n3_ n4_
                 clear ho hb hg hat
                 obtain ⟨adz0_, ez0_, HZ0_0_, HZ0_1_⟩ := at_T63 (Kd.R_reads' HO_12.out).2.2 x14_2 (by first | exact p793 | exact of_eq_true p793) (by first | exact q793 | exact of_eq_true q793)
                 cases ez0_
                 obtain ⟨adz1_, ez1_, HZ1_0_, HZ1_1_⟩ := at_T63 (Kd.R_reads' HO_12.out).2.2 x14_2 (by first | exact p800 | exact of_eq_true p800) (by first | exact q800 | exact of_eq_true q800)
                 cases ez1_
                 refine hK.out _ _ ⟨HZ0_0_, HZ0_1_, HZ1_0_, HZ1_1_⟩ (fun hHeld => ?_)
                 clear hK K
                 refine norm_ (a' := ?_) ?_ ?_
                 rotate_left
                 ·show Act.put _ (some 70) _ = _
                  simp only [Act.put, List.setIfInBounds_toArray, List.set_cons_zero, List.set_cons_succ, i64_w, i32_w]
                  rfl
                 exact norm_ (by simp only [putAll, Act.put, List.setIfInBounds_toArray, List.set_cons_zero, List.set_cons_succ]) (hCont (v795, v798, v802) _ ⟨hHeld, (by (with_reducible repeat (first | apply Kd.R_alloc | apply Kd.R_drewN | apply Kd.R_drew)); exact Kd.R_mono HO799.out (fun _ hk => ⟨hk.2, hk.1⟩)), (by (with_reducible repeat (first | apply Kd.R_alloc | apply Kd.R_drewN | apply Kd.R_drew)); exact Kd.R_mono HO803.out (fun _ hk => ⟨hk.2, hk.1⟩)), (by (with_reducible repeat (first | apply Kd.R_alloc | apply Kd.R_drewN | apply Kd.R_drew)); exact Kd.R_mono HO_11.out (fun _ hk => ⟨hk.2, hk.1⟩)), (kR_ HO_12.out), hb_⟩)
               ·skip
                refine Kd.R_lit_step Kd.string _ 9 ?hg (N := 76) ?hd (xs := ([(rd_T63 t789 x14_2).f0] : List ByteArray)) (inner := [.string ((rd_T63 t789 x14_2).f0)]) (ok := fun _ => True) (okp := fun _ => True) ?hr ?hp (fun _ hk => hk) trivial (Below.refl _ _) (Nat.le_refl _) (by simp) ?_; (case hd => rfl); (case hg => rfl); (case hr => first | (go_simp; done) | (go_simp; rfl)); (case hp => exact (Reps.one (show Kd.M Kd.string _ _ _ ((rd_T63 t789 x14_2).f0) [.string ((rd_T63 t789 x14_2).f0)] from rfl) (Reps.none _ _)))
                intro v802 w35 ho36 hb hg_ hnew_
                have HS0_ := (hb.cell (World.block_lt_of_cell? _ _ (hHeld.1))).trans (hHeld.1)
                have HS1_ := (hb.cell (World.block_lt_of_cell? _ _ (hHeld.2.1))).trans (hHeld.2.1)
                have HS2_ := (hb.cell (World.block_lt_of_cell? _ _ (hHeld.2.2.1))).trans (hHeld.2.2.1)
                have HS3_ := (hb.cell (World.block_lt_of_cell? _ _ (hHeld.2.2.2))).trans (hHeld.2.2.2)
                clear hg_ hnew_
                (first | rw [← Ny801.out] at ho36 | (simp only [Int.reduceToNat] at ho36; rw [← Ny801.out] at ho36))
                have n0_ := Aside0.mk (Kd.R_elder' (kR_ HO_11.out) (Kd.R_base ho36) hb)
                have n1_ := Aside0.mk (Kd.R_below (kR_ HO_12.out) hb)
                have n2_ := Aside0.mk (Kd.R_lower (Kd.R_new' ho36 (Kd.R_lt (kR_ HO_11.out))) (below_size hb_))
                have n3_ := Aside0.mk (below_step hb_ hb)
                clear HO_11
                clear HO_12
                clear HB
                have HO_11 := n0_
                have HO_12 := n1_
                have HO803 := n2_
                have HB := n3_
                clear n0_ n1_ n2_ n3_
                clear hb ho36
                refine hK.out _ _ ⟨HS0_, HS1_, HS2_, HS3_⟩ (fun hHeld => ?_)
                clear hK K
                refine norm_ (a' := ?_) ?_ ?_
                rotate_left
                ·show Act.put _ (some 76) _ = _
                 simp only [Act.put, List.setIfInBounds_toArray, List.set_cons_zero, List.set_cons_succ, i64_w, i32_w]
                 rfl
                refine one_ (i := 7) (N := some 68) #[true, true, true, true, true, true, true, true, true, false, true, true, true, true, true, true, false, false, false, false] rfl rfl (one_of HT_.out (by kernel_rfl)) (by decide) (fun K hK => ?_)
                refine Kd.R_lit_step Kd.string _ 9 ?hg (N := 68) ?hd (xs := ([] : List ByteArray)) (inner := []) (ok := fun _ => True) (okp := fun _ => True) ?hr ?hp (fun _ hk => hk) trivial (Below.refl _ _) (Nat.le_refl _) (by simp) ?_; (case hd => rfl); (case hg => rfl); (case hr => first | (go_simp; done) | (go_simp; rfl)); (case hp => exact (Reps.none _ _))
                intro v795 w37 ho38 hb hg_ hnew_
                have HS0_ := (hb.cell (World.block_lt_of_cell? _ _ (hHeld.1))).trans (hHeld.1)
                have HS1_ := (hb.cell (World.block_lt_of_cell? _ _ (hHeld.2.1))).trans (hHeld.2.1)
                have HS2_ := (hb.cell (World.block_lt_of_cell? _ _ (hHeld.2.2.1))).trans (hHeld.2.2.1)
                have HS3_ := (hb.cell (World.block_lt_of_cell? _ _ (hHeld.2.2.2))).trans (hHeld.2.2.2)
                clear hg_ hnew_
                (first | rw [← Ny794.out] at ho38 | (simp only [Int.reduceToNat] at ho38; rw [← Ny794.out] at ho38))
                have n0_ := Aside0.mk (Kd.R_elder' (kR_ HO_11.out) (Kd.R_base ho38) hb)
                have n1_ := Aside0.mk (Kd.R_below (kR_ HO_12.out) hb)
                have n2_ := Aside0.mk (Kd.R_elder' (kR_ HO803.out) (Kd.R_base ho38) hb)
                have n3_ := Aside0.mk (Kd.R_lower (Kd.R_new' (Kd.R_new' ho38 (Kd.R_lt (kR_ HO_11.out))) (Kd.R_lt (kR_ HO803.out))) (below_size hb_))
                have n4_ := Aside0.mk (below_step hb_ hb)
                clear HO_11
                clear HO_12
                clear HO803
                clear HB
                have HO_11 := n0_
                have HO_12 := n1_
                have HO803 := n2_
                have HO796 := n3_
                have HB := n4_
                clear n0_ n1_ n2_ n3_ n4_
                clear hb ho38
                refine hK.out _ _ ⟨HS0_, HS1_, HS2_, HS3_⟩ (fun hHeld => ?_)
                clear hK K
                refine norm_ (a' := ?_) ?_ ?_
                rotate_left
                ·show Act.put _ (some 68) _ = _
                 simp only [Act.put, List.setIfInBounds_toArray, List.set_cons_zero, List.set_cons_succ, i64_w, i32_w]
                 rfl
                refine one_ (i := 9) (N := some 70) (tf_ 16 4) rfl rfl (one_of HT_.out (by kernel_rfl)) (by decide) (fun K hK => ?_)
                refine Kd.R_append_rows_step Kd.string (w0 := w) w.heap.size (by rfl) (.tmp 68) (.tmp 69) 44 9 (.string ⟨#[]⟩) 16 rfl Tryd.underlying44 info9 rfl (by decide) (by omega) v795 y794 l2 _ _ _ (fun k_ => some k_ ≠ (.slice Ao32 x11_2.length co32 : Value).ownBlock ∧ some k_ ≠ (v802 : Value).ownBlock) (fun _ => False) rfl rfl ?aO ?aR (fun _ _ h => h) (fun _ h => h.elim) ?aF ?aB ?aS ?aL ?_
                (case aR => repeat (first | exact (Kd.C_below HR2.out HB.out) | (with_reducible refine Kd.C_alloc ?_ _) | (with_reducible refine Kd.C_drewN ?_ _) | (with_reducible refine Kd.C_drew ?_)))
                (case aB => exact hb_)
                (case aF => exact (fun k_ hk => ⟨Kd.fresh' (Kd.R_lt (kR_ HO_11.out)) k_ hk, Kd.fresh' (Kd.R_lt (kR_ HO803.out)) k_ hk⟩))
                (case aO => exact (by (with_reducible repeat (first | apply Kd.R_alloc | apply Kd.R_drewN | apply Kd.R_drew)); exact Kd.R_mono HO796.out (fun _ hk => ⟨hk.1.2, hk.2⟩)))
                (case aS => exact (below_size hb_))
                (case aL => have := LMc28.out; omega)
                intro v798 w39 ho hb hg hat
                rw [← Ny797.out] at ho
                have n0_ := Aside0.mk (Kd.R_after (ok := (fun k_ => some k_ ≠ (v802 : Value).ownBlock)) (by (with_reducible repeat (first | apply Kd.R_alloc | apply Kd.R_drewN | apply Kd.R_drew)); exact Kd.R_mono HO_11.out (fun _ hk => ⟨hk.1.2, hk.2⟩)) hg hat)
                have n1_ := Aside0.mk (Kd.R_over' (kR_ HO_12.out) (Kd.R_typed (kR_ HO796.out)) (by decide) hg)
                have n2_ := Aside0.mk (Kd.R_after (ok := (fun k_ => some k_ ≠ (.slice Ao32 x11_2.length co32 : Value).ownBlock)) (by (with_reducible repeat (first | apply Kd.R_alloc | apply Kd.R_drewN | apply Kd.R_drew)); exact Kd.R_mono HO803.out (fun _ hk => ⟨hk.1.2, hk.2⟩)) hg hat)
                have n3_ := Aside0.mk (hb)
                have n4_ := Aside0.mk (ho)
                clear HO_11
                clear HO_12
                clear HO803
                clear HB
                clear HO796
                have HO_11 := n0_
                have HO_12 := n1_
                have HO803 := n2_
                have HB := n3_
                have HO799 := n4_
                clear n0_ n1_ n2_ n3_ n4_
                clear ho hb hg hat
                obtain ⟨adz0_, ez0_, HZ0_0_, HZ0_1_⟩ := at_T63 (Kd.R_reads' HO_12.out).2.2 x14_2 (by first | exact p793 | exact of_eq_true p793) (by first | exact q793 | exact of_eq_true q793)
                cases ez0_
                obtain ⟨adz1_, ez1_, HZ1_0_, HZ1_1_⟩ := at_T63 (Kd.R_reads' HO_12.out).2.2 x14_2 (by first | exact p800 | exact of_eq_true p800) (by first | exact q800 | exact of_eq_true q800)
                cases ez1_
                refine hK.out _ _ ⟨HZ0_0_, HZ0_1_, HZ1_0_, HZ1_1_⟩ (fun hHeld => ?_)
                clear hK K
                refine norm_ (a' := ?_) ?_ ?_
                rotate_left
                ·show Act.put _ (some 70) _ = _
                 simp only [Act.put, List.setIfInBounds_toArray, List.set_cons_zero, List.set_cons_succ, i64_w, i32_w]
                 rfl
                exact norm_ (by simp only [putAll, Act.put, List.setIfInBounds_toArray, List.set_cons_zero, List.set_cons_succ]) (hCont (v795, v798, v802) _ ⟨hHeld, (by (with_reducible repeat (first | apply Kd.R_alloc | apply Kd.R_drewN | apply Kd.R_drew)); exact Kd.R_mono HO799.out (fun _ hk => ⟨hk.2, hk.1⟩)), (by (with_reducible repeat (first | apply Kd.R_alloc | apply Kd.R_drewN | apply Kd.R_drew)); exact Kd.R_mono HO803.out (fun _ hk => ⟨hk.2, hk.1⟩)), (by (with_reducible repeat (first | apply Kd.R_alloc | apply Kd.R_drewN | apply Kd.R_drew)); exact Kd.R_mono HO_11.out (fun _ hk => ⟨hk.2, hk.1⟩)), (kR_ HO_12.out), hb_⟩)
              rintro ⟨v795, v798, v802⟩ w40 ⟨hS_, h0_, h1_, h2_, h3_, h4_⟩
              have n0_ : Aside0 (Kd.R Kd.string 9 w40 w.heap.size (fun k_ => some k_ ≠ (v802 : Value).ownBlock ∧ some k_ ≠ (.slice Ao32 x11_2.length co32 : Value).ownBlock) v798 y797) := ⟨h0_⟩
              have n1_ : Aside0 (Kd.R Kd.string 9 w40 w.heap.size (fun k_ => some k_ ≠ (v798 : Value).ownBlock ∧ some k_ ≠ (.slice Ao32 x11_2.length co32 : Value).ownBlock) v802 y801) := ⟨h1_⟩
              have n2_ : Aside0 (Kd.R Kd.string 9 w40 w.heap.size (fun k_ => some k_ ≠ (v798 : Value).ownBlock ∧ some k_ ≠ (v802 : Value).ownBlock) (.slice Ao32 x11_2.length co32) x11_2) := ⟨h2_⟩
              have n3_ : Aside0 (Kd.R k63 63 w40 w.heap.size (fun _ => True) (.slice (some ad793) t789.length co34) t789) := ⟨h3_⟩
              have n4_ : Aside0 (Below w.heap.size w w40) := ⟨h4_⟩
              clear HO_11
              clear HO_12
              clear HB
              clear h0_ h1_ h2_ h3_ h4_
              have HO799 := n0_
              have HO803 := n1_
              have HO_11 := n2_
              have HO_12 := n3_
              have HB := n4_
              clear n0_ n1_ n2_ n3_ n4_
              have hHeld : w40.cell? (ad793.add ((x14_2).toNat * 2)) = some (.string ((rd_T63 t789 x14_2).f0)) ∧ w40.cell? ⟨(ad793.add ((x14_2).toNat * 2)).block, (ad793.add ((x14_2).toNat * 2)).off + 1, none⟩ = some (.int .i64 ((rd_T63 t789 x14_2).f1)) ∧ w40.cell? (ad793.add ((x14_2).toNat * 2)) = some (.string ((rd_T63 t789 x14_2).f0)) ∧ w40.cell? ⟨(ad793.add ((x14_2).toNat * 2)).block, (ad793.add ((x14_2).toNat * 2)).off + 1, none⟩ = some (.int .i64 ((rd_T63 t789 x14_2).f1)) := hS_
              obtain ⟨Ao42, co42, eo42⟩ := Kd.R_slice HO803.out
              (first | subst eo42 | (injection eo42 with f1_ f2_ f3_; have f4_ := f1_.symm; have f5_ := f3_.symm; clear f1_ f2_ f3_; subst f4_; subst f5_))
              refine norm_ (a' := ?_) ?_ ?_
              rotate_left
              ·simp only [putAll, Act.put, List.setIfInBounds_toArray, List.set_cons_zero, List.set_cons_succ]
               rfl
              refine one_ (i := 16) (N := some 77) (tf_ 17 3) rfl rfl (one_of HT_.out (by kernel_rfl)) (by decide) (fun K hK => ?_)
              refine Kd.R_append_rows_step Kd.string (w0 := w) w.heap.size (by rfl) (.tmp 70) (.tmp 76) 44 9 (.string ⟨#[]⟩) 16 rfl Tryd.underlying44 info9 rfl (by decide) (by omega) v798 y797 y801 _ _ _ (fun k_ => some k_ ≠ (.slice Ao32 x11_2.length co32 : Value).ownBlock ∧ some k_ ≠ (.slice Ao42 y801.length co42 : Value).ownBlock) (fun _ => False) rfl rfl ?aO ?aR (fun _ _ h => h) (fun _ h => h.elim) ?aF ?aB ?aS ?aL ?_
              (case aR => repeat (first | exact (Kd.R_reads' HO803.out).2.2 | (with_reducible refine Kd.C_alloc ?_ _) | (with_reducible refine Kd.C_drewN ?_ _) | (with_reducible refine Kd.C_drew ?_)))
              (case aB => exact hb_)
              (case aF => exact (fun k_ hk => ⟨Kd.fresh' (Kd.R_lt (kR_ HO_11.out)) k_ hk, Kd.fresh' (Kd.R_lt (kR_ HO803.out)) k_ hk⟩))
              (case aO => exact (by (with_reducible repeat (first | apply Kd.R_alloc | apply Kd.R_drewN | apply Kd.R_drew)); exact Kd.R_mono HO799.out (fun _ hk => ⟨hk.2, hk.1⟩)))
              (case aS => exact (below_size hb_))
              (case aL => have := LMc29.out; omega)
              intro v805 w41 ho hb hg hat
              rw [← Ny804.out] at ho
              have n0_ := Aside0.mk (Kd.R_after (ok := (fun k_ => some k_ ≠ (.slice Ao42 y801.length co42 : Value).ownBlock)) (by (with_reducible repeat (first | apply Kd.R_alloc | apply Kd.R_drewN | apply Kd.R_drew)); exact Kd.R_mono HO_11.out (fun _ hk => ⟨hk.2, hk.1⟩)) hg hat)
              have n1_ := Aside0.mk (Kd.R_over' (kR_ HO_12.out) (Kd.R_typed (kR_ HO799.out)) (by decide) hg)
              have n2_ := Aside0.mk (Kd.R_after (ok := (fun k_ => some k_ ≠ (.slice Ao32 x11_2.length co32 : Value).ownBlock)) (by (with_reducible repeat (first | apply Kd.R_alloc | apply Kd.R_drewN | apply Kd.R_drew)); exact Kd.R_mono HO803.out (fun _ hk => ⟨hk.2, hk.1⟩)) hg hat)
              have n3_ := Aside0.mk (hb)
              have n4_ := Aside0.mk (ho)
              clear HO_11
              clear HO_12
              clear HO803
              clear HB
              clear HO799
              have HO_11 := n0_
              have HO_12 := n1_
              have HO803 := n2_
              have HB := n3_
              have HO806 := n4_
              clear n0_ n1_ n2_ n3_ n4_
              clear ho hb hg hat
              obtain ⟨Ao43, co43, eo43⟩ := Kd.R_slice HO806.out
              (first | subst eo43 | (injection eo43 with f1_ f2_ f3_; have f4_ := f1_.symm; have f5_ := f3_.symm; clear f1_ f2_ f3_; subst f4_; subst f5_))
              obtain ⟨adz0_, ez0_, HZ0_0_, HZ0_1_⟩ := at_T63 (Kd.R_reads' HO_12.out).2.2 x14_2 (by first | exact p793 | exact of_eq_true p793) (by first | exact q793 | exact of_eq_true q793)
              cases ez0_
              obtain ⟨adz1_, ez1_, HZ1_0_, HZ1_1_⟩ := at_T63 (Kd.R_reads' HO_12.out).2.2 x14_2 (by first | exact p800 | exact of_eq_true p800) (by first | exact q800 | exact of_eq_true q800)
              cases ez1_
              refine hK.out _ _ ⟨HZ0_0_, HZ0_1_, HZ1_0_, HZ1_1_⟩ (fun hHeld => ?_)
              clear hK K
              refine norm_ (a' := ?_) ?_ ?_
              rotate_left
              ·show Act.put _ (some 77) _ = _
               simp only [Act.put, List.setIfInBounds_toArray, List.set_cons_zero, List.set_cons_succ, i64_w, i32_w]
               rfl
              refine one_ (i := 17) (N := some 78) (tf_ 18 2) rfl rfl (one_of HT_.out (by kernel_rfl)) (by decide) (fun K hK => ?_)
              refine goes_ Tryd.func61 (by kernel_rfl) rfl #[.slice A0 l0.length c0, .int .i64 ((rd_T63 t789 x14_2).f1), .slice Ao43 y804.length co43] (by rfl) rfl rfl sl_ ?_
              with_reducible refine (ih kj16 (by have := HJ5.out; have := HK2.out; have := HJ16.out; omega) _ _ l0 ((rd_T63 t789 x14_2).f1) _ _ y804 t807 _ ?side1 ?side2 ?side3 ?side4 A30.out).mono ?_
              (case side1 => exact kC_ (Kd.C_below HR0.out HB.out))
              (case side2 => exact HC0.out)
              (case side3 => exact kC_ ((Kd.R_reads' HO806.out).2.2))
              (case side4 => exact (Kd.R_reads' HO806.out).2.1)
              rintro e w44 ⟨v808, rfl, ho0, hb⟩
              have HS0_ := (hb.cell (World.block_lt_of_cell? _ _ (hHeld.1))).trans (hHeld.1)
              have HS1_ := (hb.cell (World.block_lt_of_cell? _ _ (hHeld.2.1))).trans (hHeld.2.1)
              have HS2_ := (hb.cell (World.block_lt_of_cell? _ _ (hHeld.2.2.1))).trans (hHeld.2.2.1)
              have HS3_ := (hb.cell (World.block_lt_of_cell? _ _ (hHeld.2.2.2))).trans (hHeld.2.2.2)
              refine ⟨_, rfl, ?_⟩
              have n0_ := Aside0.mk (Kd.R_elder' (kR_ HO_11.out) (Kd.R_base ho0) hb)
              have n1_ := Aside0.mk (Kd.R_below (kR_ HO_12.out) hb)
              have n2_ := Aside0.mk (Kd.R_elder' (kR_ HO803.out) (Kd.R_base ho0) hb)
              have n3_ := Aside0.mk (Kd.R_elder' (kR_ HO806.out) (Kd.R_base ho0) hb)
              have n4_ := Aside0.mk (Kd.R_lower (Kd.R_new' (Kd.R_new' (Kd.R_new' ho0 (Kd.R_lt (kR_ HO_11.out))) (Kd.R_lt (kR_ HO803.out))) (Kd.R_lt (kR_ HO806.out))) (below_size hb_))
              have n5_ := Aside0.mk (below_step hb_ hb)
              clear HO_11
              clear HO_12
              clear HO803
              clear HO806
              clear HB
              have HO_11 := n0_
              have HO_12 := n1_
              have HO803 := n2_
              have HO806 := n3_
              have HO809 := n4_
              have HB := n5_
              clear n0_ n1_ n2_ n3_ n4_ n5_
              (try clear hb)
              (try clear hb2)
              (try clear hk)
              (try clear hi)
              (try clear ho0)
              obtain ⟨Ao46, co46, eo46⟩ := Kd.R_slice HO809.out
              (first | subst eo46 | (injection eo46 with f1_ f2_ f3_; have f4_ := f1_.symm; have f5_ := f3_.symm; clear f1_ f2_ f3_; subst f4_; subst f5_))
              refine hK.out _ _ ⟨HS0_, HS1_, HS2_, HS3_⟩ (fun hHeld => ?_)
              clear hK K
              refine norm_ (a' := ?_) ?_ ?_
              rotate_left
              ·show Act.put _ (some 78) _ = _
               simp only [Act.put, List.setIfInBounds_toArray, List.set_cons_zero, List.set_cons_succ, i64_w, i32_w]
               rfl
              refine one_ (i := 18) (N := some 79) (tf_ 19 1) rfl rfl (one_of HT_.out (by kernel_rfl)) (by decide) (fun K hK => ?_)
              refine Kd.R_append_rows_step Kd.string (w0 := w) w.heap.size (by rfl) (.tmp 61) (.tmp 78) 44 9 (.string ⟨#[]⟩) 16 rfl Tryd.underlying44 info9 rfl (by decide) (by omega) (.slice Ao32 x11_2.length co32) x11_2 t807 _ _ _ (fun k_ => some k_ ≠ (.slice Ao42 y801.length co42 : Value).ownBlock ∧ some k_ ≠ (.slice Ao43 y804.length co43 : Value).ownBlock ∧ some k_ ≠ (.slice Ao46 t807.length co46 : Value).ownBlock) (fun _ => False) rfl rfl ?aO ?aR (fun _ _ h => h) (fun _ h => h.elim) ?aF ?aB ?aS ?aL ?_
              (case aR => repeat (first | exact (Kd.R_reads' HO809.out).2.2 | (with_reducible refine Kd.C_alloc ?_ _) | (with_reducible refine Kd.C_drewN ?_ _) | (with_reducible refine Kd.C_drew ?_)))
              (case aB => exact hb_)
              (case aF => exact (fun k_ hk => ⟨Kd.fresh' (Kd.R_lt (kR_ HO803.out)) k_ hk, Kd.fresh' (Kd.R_lt (kR_ HO806.out)) k_ hk, Kd.fresh' (Kd.R_lt (kR_ HO809.out)) k_ hk⟩))
              (case aO => exact (by (with_reducible repeat (first | apply Kd.R_alloc | apply Kd.R_drewN | apply Kd.R_drew)); exact Kd.R_mono HO_11.out (fun _ hk => ⟨hk.1.1, ⟨hk.1.2, hk.2⟩⟩)))
              (case aS => exact (below_size hb_))
              (case aL => have := LMc31.out; omega)
              intro v811 w45 ho hb hg hat
              rw [← Ny810.out] at ho
              have n0_ := Aside0.mk (Kd.R_over' (kR_ HO_12.out) (Kd.R_typed (kR_ HO_11.out)) (by decide) hg)
              have n1_ := Aside0.mk (Kd.R_after (ok := (fun k_ => some k_ ≠ (.slice Ao43 y804.length co43 : Value).ownBlock ∧ some k_ ≠ (.slice Ao46 t807.length co46 : Value).ownBlock)) (by (with_reducible repeat (first | apply Kd.R_alloc | apply Kd.R_drewN | apply Kd.R_drew)); exact Kd.R_mono HO803.out (fun _ hk => ⟨⟨hk.1.2, hk.2⟩, hk.1.1⟩)) hg hat)
              have n2_ := Aside0.mk (Kd.R_after (ok := (fun k_ => some k_ ≠ (.slice Ao42 y801.length co42 : Value).ownBlock ∧ some k_ ≠ (.slice Ao46 t807.length co46 : Value).ownBlock)) (by (with_reducible repeat (first | apply Kd.R_alloc | apply Kd.R_drewN | apply Kd.R_drew)); exact Kd.R_mono HO806.out (fun _ hk => ⟨⟨hk.1.2, hk.2⟩, hk.1.1⟩)) hg hat)
              have n3_ := Aside0.mk (Kd.R_after (ok := (fun k_ => some k_ ≠ (.slice Ao42 y801.length co42 : Value).ownBlock ∧ some k_ ≠ (.slice Ao43 y804.length co43 : Value).ownBlock)) (by (with_reducible repeat (first | apply Kd.R_alloc | apply Kd.R_drewN | apply Kd.R_drew)); exact Kd.R_mono HO809.out (fun _ hk => ⟨⟨hk.1.2, hk.2⟩, hk.1.1.2⟩)) hg hat)
              have n4_ := Aside0.mk (hb)
              have n5_ := Aside0.mk (ho)
              clear HO_12
              clear HO803
              clear HO806
              clear HO809
              clear HB
              clear HO_11
              have HO_12 := n0_
              have HO803 := n1_
              have HO806 := n2_
              have HO809 := n3_
              have HB := n4_
              have HO812 := n5_
              clear n0_ n1_ n2_ n3_ n4_ n5_
              clear ho hb hg hat
              obtain ⟨adz0_, ez0_, HZ0_0_, HZ0_1_⟩ := at_T63 (Kd.R_reads' HO_12.out).2.2 x14_2 (by first | exact p793 | exact of_eq_true p793) (by first | exact q793 | exact of_eq_true q793)
              cases ez0_
              obtain ⟨adz1_, ez1_, HZ1_0_, HZ1_1_⟩ := at_T63 (Kd.R_reads' HO_12.out).2.2 x14_2 (by first | exact p800 | exact of_eq_true p800) (by first | exact q800 | exact of_eq_true q800)
              cases ez1_
              refine hK.out _ _ ⟨HZ0_0_, HZ0_1_, HZ1_0_, HZ1_1_⟩ (fun hHeld => ?_)
              clear hK K
              refine norm_ (a' := ?_) ?_ ?_
              rotate_left
              ·show Act.put _ (some 79) _ = _
               simp only [Act.put, List.setIfInBounds_toArray, List.set_cons_zero, List.set_cons_succ, i64_w, i32_w]
               rfl
              refine pa_ (i := 19) (N := some 11) (tf_ 20 0) ?_
              refine done_ (done_of HT_.out (by kernel_rfl)) ?_
              try go_wp2
              go_roundg kj16
              case measure => have := HJ5.out; have := HK2.out; have := HJ16.out; omega
              case rel => exact ⟨(y810), (wrap64 (x14_2 + 1)), (by first | rfl | (simp; done) | (simp [*]; done)), H', ⟨by have := HJ5.out; have := HK2.out; have := HJ16.out; omega⟩, ⟨by (with_reducible repeat (first | apply Kd.R_alloc | apply Kd.R_drewN | apply Kd.R_drew)); exact Kd.R_mono HO812.out (fun _ hk => trivial)⟩, ⟨by (with_reducible repeat (first | apply Kd.R_alloc | apply Kd.R_drewN | apply Kd.R_drew)); exact HO_12.out⟩, ⟨hb_⟩⟩
             ·rw [if_neg c31] at H
              exact absurd H (by simp)
            ·rw [if_neg c29] at H
             exact absurd H (by simp)
           ·rw [if_neg c28] at H
            exact absurd H (by simp)
          ·rw [if_neg c27] at H
           exact absurd H (by simp)
         ·rw [if_neg c26] at H
          exact absurd H (by simp)
        ·replace c25 := Bool.eq_false_iff.mpr c25
         subst c25
         have H1 : (some x11_2) = some r := by rw [if_neg (show ¬ (false = true) by decide)] at H; exact H
         clear H
         have H := H1
         clear H1
         obtain rfl := Option.some.inj H
         go_wp2
         go_ret
         exact ⟨_, er_, by (with_reducible repeat (first | apply Kd.R_alloc | apply Kd.R_drewN | apply Kd.R_drew)); exact HO_11.out, hb_⟩
/-! ### spec_AllFiles: function 33 -/
def spec_AllFiles.f (k : Nat) (l0 : List (S58)) (a1 : Int) : Option (List ByteArray) := (spec_StoreValid.f k l0).bind fun t813 => (if t813 = true then ((spec_l11Files.f k l0 a1 (([] : List ByteArray))).bind fun t817 => (some t817)) else (some (([] : List ByteArray))))
theorem spec_AllFiles.mono : ∀ a0 a1 k, LeO (spec_AllFiles.f k a0 a1) (spec_AllFiles.f (k + 1) a0 a1) := by
 intro a0 a1 k
 unfold spec_AllFiles.f
 repeat' first
   | (with_reducible exact spec_StoreValid.mono _ _)
   | (with_reducible exact spec_l11Files.mono _ _ _ _)
   | (with_reducible exact LeO.refl _)
   | (with_reducible exact LeO.none _)
   | (with_reducible refine LeO.ite ?_ ?_)
   | (with_reducible refine LeO.bind ?_ (fun _ => ?_))
   | exact spec_StoreValid.mono _ _
   | exact spec_l11Files.mono _ _ _ _
   | exact LeO.none _
   | refine LeO.ite ?_ ?_
   | refine LeO.bind ?_ (fun _ => ?_)
set_option maxHeartbeats 8000000 in
set_option maxRecDepth 100000 in
theorem spec_AllFiles.calls (k : Nat) (A0 : Option Addr) (c0 : Nat) (l0 : List (S58)) (a1 : Int) (r : List ByteArray) (w : World) (hr0 : Kd.C k58 w A0 l0.length l0) (hc0 : l0.length ≤ c0) (h : spec_AllFiles.f k l0 a1 = some r) :
  Calls Tryd.prog 33 #[.slice A0 l0.length c0, .int .i64 a1] w fun e w' => ∃ v0_ : Value, e = .returned (v0_) ∧ Kd.R Kd.string 9 w' w.heap.size (fun _ => True) v0_ r ∧ Below w.heap.size w w' := by
 have HR0 := Aside0.mk hr0
 have HC0 := Aside0.mk hc0
 clear hr0 hc0
 have HB := Aside0.mk (Below.refl w.heap.size w)
 have H : ((spec_StoreValid.f k l0).bind fun t813 => (if t813 = true then ((spec_l11Files.f k l0 a1 (([] : List ByteArray))).bind fun t817 => (some t817)) else (some (([] : List ByteArray))))) = some r := h
 clear h
 replace H := Option.bind_eq_some_iff.mp H
 obtain ⟨t813, A30, H⟩ := H
 replace H : (if t813 = true then ((spec_l11Files.f k l0 a1 (([] : List ByteArray))).bind fun t817 => (some t817)) else (some (([] : List ByteArray)))) = some r := H
 have A3 := Aside0.mk A30
 clear A30
 by_cases c4 : t813 = true
 ·subst c4
  have H1 : ((spec_l11Files.f k l0 a1 (([] : List ByteArray))).bind fun t817 => (some t817)) = some r := by rw [if_pos rfl] at H; exact H
  clear H
  have H := H1
  clear H1
  obtain ⟨y814, hy814⟩ : ∃ y_ : List ByteArray, y_ = (([] : List ByteArray)) := ⟨_, rfl⟩
  replace H : ((spec_l11Files.f k l0 a1 y814).bind fun t817 => (some t817)) = some r := by first | (rw [hy814]; with_reducible exact H) | (have H2_ := (Option.bind_some _ _).symm.trans H; rw [hy814]; with_reducible exact H2_) | (have H2_ := (Option.bind_some _ _).symm.trans H; with_reducible exact H2_) | with_reducible exact H | (rw [hy814]; exact H) | exact H
  have Ny814 := Aside0.mk hy814
  clear hy814
  replace H := Option.bind_eq_some_iff.mp H
  obtain ⟨t817, A50, H⟩ := H
  replace H : (some t817) = some r := H
  have A5 := Aside0.mk A50
  clear A50
  obtain rfl := Option.some.inj H
  go_enter Tryd.func33, Tryd.ntmps33
  go_wp2_with (first | ((with_reducible refine gate_callee (f := 49) rfl ?_); refine goesL_ (some 6) rfl rfl Tryd.func49 (by kernel_rfl) rfl #[.slice A0 l0.length c0] rfl sl_ ?_; (with_reducible refine (spec_StoreValid.calls k _ _ l0 true _ ?side1 ?side2 A3.out).mono ?_); (case side1 => exact kC_ HR0.out); (case side2 => exact HC0.out); rintro e w6 ⟨rfl, hb⟩; refine ⟨_, rfl, ?_⟩; replace HB := Aside0.mk (below_step hb_ hb); (try clear hb); (try clear hk)) | ((with_reducible refine gate_dst (N := 11) rfl ?_); refine Kd.R_lit Kd.string _ 9 ?hg (N := 11) ?hd (xs := ([] : List ByteArray)) (inner := []) (ok := fun _ => True) (okp := fun _ => True) ?hr ?hp (fun _ hk => hk) trivial (Below.refl _ _) (Nat.le_refl _) (by simp) ?_; (case hd => rfl); (case hg => rfl); (case hr => first | (go_simp; done) | (go_simp; rfl)); (case hp => exact (Reps.none _ _)); intro v815 w7 ho8 hb hg_ hnew_; clear hg_ hnew_; (first | rw [← Ny814.out] at ho8 | (simp only [Int.reduceToNat] at ho8; rw [← Ny814.out] at ho8)); have HO816 := Aside0.mk (Kd.R_lower ho8 (below_size hb_)); replace HB := Aside0.mk (below_step hb_ hb); clear hb ho8; obtain ⟨Ao9, co9, eo9⟩ := Kd.R_slice HO816.out; subst eo9) | ((with_reducible refine gate_callee (f := 61) rfl ?_); refine goesL_ (some 12) rfl rfl Tryd.func61 (by kernel_rfl) rfl #[.slice A0 l0.length c0, .int .i64 a1, .slice Ao9 y814.length co9] rfl sl_ ?_; (with_reducible refine (spec_l11Files.calls k _ _ l0 a1 _ _ y814 t817 _ ?side1 ?side2 ?side3 ?side4 A5.out).mono ?_); (case side1 => exact kC_ (Kd.C_below HR0.out HB.out)); (case side2 => exact HC0.out); (case side3 => exact kC_ ((Kd.R_reads' HO816.out).2.2)); (case side4 => exact (Kd.R_reads' HO816.out).2.1); rintro e w10 ⟨v818, rfl, ho0, hb⟩; refine ⟨_, rfl, ?_⟩; have HO819 := Aside0.mk (Kd.R_lower (Kd.R_new' ho0 (Kd.R_lt (kR_ HO816.out))) (below_size hb_)); replace HO816 := Aside0.mk (Kd.R_elder' (kR_ HO816.out) (Kd.R_base ho0) hb); replace HB := Aside0.mk (below_step hb_ hb); (try clear hb); (try clear hk); (try clear ho0)))
  go_ret
  exact ⟨_, er_, by (with_reducible repeat (first | apply Kd.R_alloc | apply Kd.R_drewN | apply Kd.R_drew)); exact Kd.R_mono HO819.out (fun _ hk => trivial), hb_⟩
 ·replace c4 := Bool.eq_false_iff.mpr c4
  subst c4
  have H1 : (some (([] : List ByteArray))) = some r := by rw [if_neg (show ¬ (false = true) by decide)] at H; exact H
  clear H
  have H := H1
  clear H1
  obtain ⟨y820, hy820⟩ : ∃ y_ : List ByteArray, y_ = (([] : List ByteArray)) := ⟨_, rfl⟩
  replace H : (some y820) = some r := by first | (rw [hy820]; with_reducible exact H) | (have H2_ := (Option.bind_some _ _).symm.trans H; rw [hy820]; with_reducible exact H2_) | (have H2_ := (Option.bind_some _ _).symm.trans H; with_reducible exact H2_) | with_reducible exact H | (rw [hy820]; exact H) | exact H
  have Ny820 := Aside0.mk hy820
  clear hy820
  obtain rfl := Option.some.inj H
  go_enter Tryd.func33, Tryd.ntmps33
  go_wp2_with (first | ((with_reducible refine gate_callee (f := 49) rfl ?_); refine goesL_ (some 6) rfl rfl Tryd.func49 (by kernel_rfl) rfl #[.slice A0 l0.length c0] rfl sl_ ?_; (with_reducible refine (spec_StoreValid.calls k _ _ l0 false _ ?side1 ?side2 A3.out).mono ?_); (case side1 => exact kC_ HR0.out); (case side2 => exact HC0.out); rintro e w11 ⟨rfl, hb⟩; refine ⟨_, rfl, ?_⟩; replace HB := Aside0.mk (below_step hb_ hb); (try clear hb); (try clear hk)) | ((with_reducible refine gate_dst (N := 8) rfl ?_); refine Kd.R_lit Kd.string _ 9 ?hg (N := 8) ?hd (xs := ([] : List ByteArray)) (inner := []) (ok := fun _ => True) (okp := fun _ => True) ?hr ?hp (fun _ hk => hk) trivial (Below.refl _ _) (Nat.le_refl _) (by simp) ?_; (case hd => rfl); (case hg => rfl); (case hr => first | (go_simp; done) | (go_simp; rfl)); (case hp => exact (Reps.none _ _)); intro v821 w12 ho13 hb hg_ hnew_; clear hg_ hnew_; (first | rw [← Ny820.out] at ho13 | (simp only [Int.reduceToNat] at ho13; rw [← Ny820.out] at ho13)); have HO822 := Aside0.mk (Kd.R_lower ho13 (below_size hb_)); replace HB := Aside0.mk (below_step hb_ hb); clear hb ho13))
  go_ret
  exact ⟨_, er_, by (with_reducible repeat (first | apply Kd.R_alloc | apply Kd.R_drewN | apply Kd.R_drew)); exact HO822.out, hb_⟩
/-! ### slices_Clone_string: function 90 (by a text of my own) -/
def slices_Clone_string.f (l0 : List ByteArray) : Option (List ByteArray) := if l0.length * 16 ≤ 140737488355328 then some l0 else none
set_option maxHeartbeats 8000000 in
set_option maxRecDepth 100000 in
theorem slices_Clone_string.calls (A0 : Option Addr) (c0 : Nat) (l0 : List ByteArray) (r : List ByteArray) (w : World) (hr0 : Kd.C Kd.string w A0 l0.length l0) (hc0 : l0.length ≤ c0) (h : slices_Clone_string.f l0 = some r) :
  Calls Tryd.prog 90 #[.slice A0 l0.length c0] w fun e w' => ∃ v0_ : Value, e = .returned (v0_) ∧ Kd.R Kd.string 9 w' w.heap.size (fun _ => True) v0_ r ∧ Below w.heap.size w w' := by
 unfold slices_Clone_string.f at h
 by_cases hbig : l0.length * 16 ≤ 140737488355328
 case neg => rw [if_neg hbig] at h; cases h
 rw [if_pos hbig] at h
 obtain rfl := Option.some.inj h
 clear h
 have q : ∀ (w : World) (a : Option Addr) (n c n' c' : Nat), (binOp .eql 44 (.slice a n c) (.slice none n' c')).run Tryd.prog w = .ok (.bool a.isNone) w := fun w a n c n' c' => Lib.run_eql_slice_nil w _ _ a n c n' c' Tryd.underlying44
 cases A0 with
 | none =>
  obtain ⟨rfl, _⟩ := KdW.nil_of_none hr0
  clear hr0
  go_enter Tryd.func90, Tryd.ntmps90
  go_wp2
  go_ret
  exact ⟨_, rfl, Kd.R_nil _ _ _ _ _, Below.refl _ _⟩
 | some ad =>
  obtain ⟨inner, hreps, hcell⟩ := ReadsRow.inner_ hr0
  have hn1 := hr0.2.1
  have hl : inner.length = l0.length * 1 := hreps.1
  have h1 : ∀ u ∈ inner, u.oneCell' = true := KdW.reps_one hreps (by decide) (fun _ _ h => Kd.K_one Kd.string h)
  have A : Aside0 (∀ j u, inner[j]? = some u → w.cell? (ad.add j) = some u) := ⟨hcell⟩
  have RP : Aside0 (Reps (Kd.K Kd.string w) (Kd.sz Kd.string) l0 inner) := ⟨hreps⟩
  clear hcell hreps hr0
  obtain ⟨i0, hi, hz0, hz1, hz2⟩ := info_parts info9
  go_enter Tryd.func90, Tryd.ntmps90
  go_wp2_with (at_builtin; refine wpList_append_own _ rfl _ _ 44 rfl w.heap.size 9 i0 _ 1 16 Tryd.underlying44 hi hz0 hz1 hz2 rfl (by decide) _ _ _ rfl (World.ownsRow_made w #[] 0 (Nat.le_refl _) (Nat.zero_le _) (by simp)) ad l0.length c0 inner rfl ?qc1 ?qc2 ?qc3 ?qc4 ?qc5 ?qc6 ?_)
  case qc1 => exact hl
  case qc2 => exact fun j u hj => Lib.cell?_alloc_some _ (A.out j u hj)
  case qc3 => exact h1
  case qc4 => rw [Nat.zero_add]; simpa [maxLen] using hn1
  case qc5 => rw [Nat.zero_add]; exact hbig
  case qc6 => simp
  intro v' w1 hown hgrow hnil
  go_wp2
  go_ret
  have hb : Below w.heap.size w w1 := ((Below.refl _ w).alloc (Nat.le_refl _) _).grown hgrow (by simp) (by intro k hk; simp [Value.ownBlock] at hk; omega)
  exact ⟨v', rfl, ⟨fun _ _ => trivial, inner, by exact hown, RP.out.imp_ (fun p c hp => hp)⟩, hb⟩
/-! ### impl_fileOf: function 91 -/
def impl_fileOf.f (k : Nat) (l0 : List (S58)) (a1 : Int) : Option (ByteArray × Bool) := (impl_textOf.f k l0 a1).bind fun bt833 => (if bt833.2 = true then ((impl_ReadFile.f k bt833.1).bind fun bt835 => (some (bt835.1, bt835.2))) else (some ((⟨#[]⟩ : ByteArray), false)))
theorem impl_fileOf.mono : ∀ a0 a1 k, LeO (impl_fileOf.f k a0 a1) (impl_fileOf.f (k + 1) a0 a1) := by
 intro a0 a1 k
 unfold impl_fileOf.f
 repeat' first
   | (with_reducible exact impl_ReadFile.mono _ _)
   | (with_reducible exact impl_textOf.mono _ _ _)
   | (with_reducible exact LeO.refl _)
   | (with_reducible exact LeO.none _)
   | (with_reducible refine LeO.ite ?_ ?_)
   | (with_reducible refine LeO.bind ?_ (fun _ => ?_))
   | exact impl_ReadFile.mono _ _
   | exact impl_textOf.mono _ _ _
   | exact LeO.none _
   | refine LeO.ite ?_ ?_
   | refine LeO.bind ?_ (fun _ => ?_)
set_option maxHeartbeats 8000000 in
set_option maxRecDepth 100000 in
theorem impl_fileOf.calls (k : Nat) (A0 : Option Addr) (c0 : Nat) (l0 : List (S58)) (a1 : Int) (r1 : ByteArray) (r2 : Bool) (w : World) (hr0 : Kd.C k58 w A0 l0.length l0) (hc0 : l0.length ≤ c0) (h : impl_fileOf.f k l0 a1 = some (r1, r2)) :
  Calls Tryd.prog 91 #[.slice A0 l0.length c0, .int .i64 a1] w fun e w' => e = .returned (.tuple #[.string r1, .bool r2]) ∧ Below w.heap.size w w' := by
 have HR0 := Aside0.mk hr0
 have HC0 := Aside0.mk hc0
 clear hr0 hc0
 have HB := Aside0.mk (Below.refl w.heap.size w)
 have H : ((impl_textOf.f k l0 a1).bind fun bt833 => (if bt833.2 = true then ((impl_ReadFile.f k bt833.1).bind fun bt835 => (some (bt835.1, bt835.2))) else (some ((⟨#[]⟩ : ByteArray), false)))) = some (r1, r2) := h
 clear h
 replace H := Option.bind_eq_some_iff.mp H
 obtain ⟨⟨t833, t834⟩, A30, H⟩ := H
 replace H : (if t834 = true then ((impl_ReadFile.f k t833).bind fun bt835 => (some (bt835.1, bt835.2))) else (some ((⟨#[]⟩ : ByteArray), false))) = some (r1, r2) := H
 have A3 := Aside0.mk A30
 clear A30
 by_cases c4 : t834 = true
 ·subst c4
  have H1 : ((impl_ReadFile.f k t833).bind fun bt835 => (some (bt835.1, bt835.2))) = some (r1, r2) := by rw [if_pos rfl] at H; exact H
  clear H
  have H := H1
  clear H1
  replace H := Option.bind_eq_some_iff.mp H
  obtain ⟨⟨t835, t836⟩, A50, H⟩ := H
  replace H : (some (t835, t836)) = some (r1, r2) := H
  have A5 := Aside0.mk A50
  clear A50
  simp only [Option.some.injEq, Prod.mk.injEq] at H
  obtain ⟨rfl, rfl⟩ := H
  go_enter Tryd.func91, Tryd.ntmps91
  go_wp2_with (first | ((with_reducible refine gate_callee (f := 60) rfl ?_); refine goesL_ (some 11) rfl rfl Tryd.func60 (by kernel_rfl) rfl #[.slice A0 l0.length c0, .int .i64 a1] rfl sl_ ?_; (with_reducible refine (impl_textOf.calls k _ _ l0 a1 t833 true _ ?side1 ?side2 A3.out).mono ?_); (case side1 => exact kC_ HR0.out); (case side2 => exact HC0.out); rintro e w6 ⟨rfl, hb⟩; refine ⟨_, rfl, ?_⟩; replace HB := Aside0.mk (below_step hb_ hb); (try clear hb)) | ((with_reducible refine gate_callee (f := 71) rfl ?_); refine goesL_ (some 17) rfl rfl Tryd.func71 (by kernel_rfl) rfl #[.string t833] rfl sl_ ?_; (with_reducible refine (impl_ReadFile.calls k t833 t835 t836 _ A5.out).mono ?_); rintro e w' ⟨rfl, ⟨nd, rfl⟩⟩; refine ⟨_, rfl, ?_⟩))
  go_ret2
  exact ⟨er_, hb_⟩
 ·replace c4 := Bool.eq_false_iff.mpr c4
  subst c4
  have H1 : (some ((⟨#[]⟩ : ByteArray), false)) = some (r1, r2) := by rw [if_neg (show ¬ (false = true) by decide)] at H; exact H
  clear H
  have H := H1
  clear H1
  simp only [Option.some.injEq, Prod.mk.injEq] at H
  obtain ⟨rfl, rfl⟩ := H
  go_enter Tryd.func91, Tryd.ntmps91
  go_wp2_with (first | ((with_reducible refine gate_callee (f := 60) rfl ?_); refine goesL_ (some 11) rfl rfl Tryd.func60 (by kernel_rfl) rfl #[.slice A0 l0.length c0, .int .i64 a1] rfl sl_ ?_; (with_reducible refine (impl_textOf.calls k _ _ l0 a1 t833 false _ ?side1 ?side2 A3.out).mono ?_); (case side1 => exact kC_ HR0.out); (case side2 => exact HC0.out); rintro e w7 ⟨rfl, hb⟩; refine ⟨_, rfl, ?_⟩; replace HB := Aside0.mk (below_step hb_ hb); (try clear hb)))
  go_ret2
  exact ⟨er_, hb_⟩
end Go.Proofs.YtjgbidklkhohfaaDoor.P
