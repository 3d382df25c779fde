-- The functions of the seat as plain Lean functions, made by the kit's print.py for all laws at once. Not trusted: Lean checks it.
import Derived.Test.YtjgbidklkhohfaaGreatDoorPx0
import Derived.Test.YtjgbidklkhohfaaGreatDoorPx3
import Derived.Test.YtjgbidklkhohfaaGreatDoorPx4
import Derived.Test.YtjgbidklkhohfaaGreatDoorPx7
namespace Go.Proofs.YtjgbidklkhohfaaGreatDoor.P
open Go.RowKit Go.Proofs.YtjgbidklkhohfaaGreatDoorW.PrintWords Go.Proofs.YtjgbidklkhohfaaGreatDoorW.PrintLast Go.Proofs.YtjgbidklkhohfaaGreatDoorW.PrintMore
attribute [local go_sem] max2_int min2_int max_two min_two max_three min_three max_four min_four   -- for this text's walks alone
set_option linter.unusedVariables false
set_option linter.unusedSimpArgs false
/-! ### slices_Clone_string: function 74 (by a text of my own) -/
def slices_Clone_string.f (l0 : List ByteArray) : Option (List ByteArray) := if l0.length * 16 ≤ 140737488355328 then some l0 else none
set_option maxHeartbeats 8000000 in
set_option maxRecDepth 100000 in
theorem slices_Clone_string.calls (A0 : Option Addr) (c0 : Nat) (l0 : List ByteArray) (r : List ByteArray) (w : World) (hr0 : Kd.C Kd.string w A0 l0.length l0) (hc0 : l0.length ≤ c0) (h : slices_Clone_string.f l0 = some r) :
  Calls Tryz.prog 74 #[.slice A0 l0.length c0] w fun e w' => ∃ v0_ : Value, e = .returned (v0_) ∧ Kd.R Kd.string 9 w' w.heap.size (fun _ => True) v0_ r ∧ Below w.heap.size w w' := by
 unfold slices_Clone_string.f at h
 by_cases hbig : l0.length * 16 ≤ 140737488355328
 case neg => rw [if_neg hbig] at h; cases h
 rw [if_pos hbig] at h
 obtain rfl := Option.some.inj h
 clear h
 have q : ∀ (w : World) (a : Option Addr) (n c n' c' : Nat), (binOp .eql 24 (.slice a n c) (.slice none n' c')).run Tryz.prog w = .ok (.bool a.isNone) w := fun w a n c n' c' => Lib.run_eql_slice_nil w _ _ a n c n' c' Tryz.underlying24
 cases A0 with
 | none =>
  obtain ⟨rfl, _⟩ := KdW.nil_of_none hr0
  clear hr0
  go_enter Tryz.func74, Tryz.ntmps74
  go_wp2
  go_ret
  exact ⟨_, rfl, Kd.R_nil _ _ _ _ _, Below.refl _ _⟩
 | some ad =>
  obtain ⟨inner, hreps, hcell⟩ := ReadsRow.inner_ hr0
  have hn1 := hr0.2.1
  have hl : inner.length = l0.length * 1 := hreps.1
  have h1 : ∀ u ∈ inner, u.oneCell' = true := KdW.reps_one hreps (by decide) (fun _ _ h => Kd.K_one Kd.string h)
  have A : Aside0 (∀ j u, inner[j]? = some u → w.cell? (ad.add j) = some u) := ⟨hcell⟩
  have RP : Aside0 (Reps (Kd.K Kd.string w) (Kd.sz Kd.string) l0 inner) := ⟨hreps⟩
  clear hcell hreps hr0
  obtain ⟨i0, hi, hz0, hz1, hz2⟩ := info_parts info9
  go_enter Tryz.func74, Tryz.ntmps74
  go_wp2_with (at_builtin; refine wpList_append_own _ rfl _ _ 24 rfl w.heap.size 9 i0 _ 1 16 Tryz.underlying24 hi hz0 hz1 hz2 rfl (by decide) _ _ _ rfl (World.ownsRow_made w #[] 0 (Nat.le_refl _) (Nat.zero_le _) (by simp)) ad l0.length c0 inner rfl ?qc1 ?qc2 ?qc3 ?qc4 ?qc5 ?qc6 ?_)
  case qc1 => exact hl
  case qc2 => exact fun j u hj => Lib.cell?_alloc_some _ (A.out j u hj)
  case qc3 => exact h1
  case qc4 => rw [Nat.zero_add]; simpa [maxLen] using hn1
  case qc5 => rw [Nat.zero_add]; exact hbig
  case qc6 => simp
  intro v' w1 hown hgrow hnil
  go_wp2
  go_ret
  have hb : Below w.heap.size w w1 := ((Below.refl _ w).alloc (Nat.le_refl _) _).grown hgrow (by simp) (by intro k hk; simp [Value.ownBlock] at hk; omega)
  exact ⟨v', rfl, ⟨fun _ _ => trivial, inner, by exact hown, RP.out.imp_ (fun p c hp => hp)⟩, hb⟩
/-! ### impl_filesBelow: function 49 -/
mutual
def impl_filesBelow.l0 : Nat → List (S46) → List ByteArray → List ByteArray → List (S75) → Int → Int → Option (List ByteArray)
 | 0, _, _, _, _, _, _ => none
 | k + 1, x0, x2, x9, x24, x25, x26 => if x26 < x25 then (if 0 ≤ x26 then (if x26 < (x24.length : Int) then ((slices_Clone_string.f x2).bind fun t303 => ((some (([(rd_T75 x24 x26).f0] : List ByteArray) : List ByteArray)).bind fun y306 => (if t303.length + y306.length < 8796093022208 then ((some (t303 ++ y306 : List ByteArray)).bind fun y309 => ((impl_fileOf.f k x0 ((rd_T75 x24 x26).f1)).bind fun bt312 => (if bt312.2 = true then ((impl_JoinPath.f k y309).bind fun t314 => ((some (([t314] : List ByteArray) : List ByteArray)).bind fun y315 => (if x9.length + y315.length < 8796093022208 then (impl_filesBelow.l0 k x0 x2 (x9 ++ y315) x24 x25 (wrap64 (x26 + 1))) else (none)))) else ((impl_filesBelow.f k x0 ((rd_T75 x24 x26).f1) y309).bind fun t321 => (if x9.length + t321.length < 8796093022208 then (impl_filesBelow.l0 k x0 x2 (x9 ++ t321) x24 x25 (wrap64 (x26 + 1))) else (none)))))) else (none)))) else (none)) else (none)) else (some x9)
def impl_filesBelow.f : Nat → List (S46) → Int → List ByteArray → Option (List ByteArray)
 | 0, _, _, _ => none
 | k + 1, l0, a1, l2 => if (l2.length : Int) = 3 then (some ([] : List ByteArray)) else ((impl_folderOf.f k l0 a1).bind fun bt297 => (impl_filesBelow.l0 k l0 l2 ([] : List ByteArray) bt297.1 (bt297.1.length : Int) 0))
end
theorem impl_filesBelow.mono_l : ∀ k, (∀ y0 y1 y2, LeO (impl_filesBelow.f k y0 y1 y2) (impl_filesBelow.f (k + 1) y0 y1 y2)) ∧ (∀ y0 y1 y2 y3 y4 y5, LeO (impl_filesBelow.l0 k y0 y1 y2 y3 y4 y5) (impl_filesBelow.l0 (k + 1) y0 y1 y2 y3 y4 y5))
 | 0 => ⟨fun _ _ _ r h => by simp [impl_filesBelow.f] at h, fun _ _ _ _ _ _ r h => by simp [impl_filesBelow.l0] at h⟩
 | k + 1 => by
  obtain ⟨ih0, ih1⟩ := impl_filesBelow.mono_l k
  refine ⟨?_, ?_⟩
  ·intro y0 y1 y2
   unfold impl_filesBelow.f
   repeat' first
   | (with_reducible exact ih0 _ _ _)
   | (with_reducible exact ih1 _ _ _ _ _ _)
   | (with_reducible exact impl_JoinPath.mono _ _)
   | (with_reducible exact impl_fileOf.mono _ _ _)
   | (with_reducible exact impl_folderOf.mono _ _ _)
   | (with_reducible exact LeO.refl _)
   | (with_reducible exact LeO.none _)
   | (with_reducible refine LeO.ite ?_ ?_)
   | (with_reducible refine LeO.bind ?_ (fun _ => ?_))
   | exact ih0 _ _ _
   | exact ih1 _ _ _ _ _ _
   | exact impl_JoinPath.mono _ _
   | exact impl_fileOf.mono _ _ _
   | exact impl_folderOf.mono _ _ _
   | exact LeO.none _
   | refine LeO.ite ?_ ?_
   | refine LeO.bind ?_ (fun _ => ?_)
  ·intro y0 y1 y2 y3 y4 y5
   unfold impl_filesBelow.l0
   repeat' first
   | (with_reducible exact ih0 _ _ _)
   | (with_reducible exact ih1 _ _ _ _ _ _)
   | (with_reducible exact impl_JoinPath.mono _ _)
   | (with_reducible exact impl_fileOf.mono _ _ _)
   | (with_reducible exact impl_folderOf.mono _ _ _)
   | (with_reducible exact LeO.refl _)
   | (with_reducible exact LeO.none _)
   | (with_reducible refine LeO.ite ?_ ?_)
   | (with_reducible refine LeO.bind ?_ (fun _ => ?_))
   | exact ih0 _ _ _
   | exact ih1 _ _ _ _ _ _
   | exact impl_JoinPath.mono _ _
   | exact impl_fileOf.mono _ _ _
   | exact impl_folderOf.mono _ _ _
   | exact LeO.none _
   | refine LeO.ite ?_ ?_
   | refine LeO.bind ?_ (fun _ => ?_)
theorem impl_filesBelow.mono : ∀ a0 a1 a2 k, LeO (impl_filesBelow.f k a0 a1 a2) (impl_filesBelow.f (k + 1) a0 a1 a2) := by
 intro a0 a1 a2 k
 obtain ⟨ih0, ih1⟩ := impl_filesBelow.mono_l k
 exact ih0 a0 a1 a2
set_option maxHeartbeats 8000000 in
set_option maxRecDepth 100000 in
theorem impl_filesBelow.calls (k : Nat) : ∀ (A0 : Option Addr) (c0 : Nat) (l0 : List (S46)) (a1 : Int) (A2 : Option Addr) (c2 : Nat) (l2 : List ByteArray) (r : List ByteArray) (w : World) (hr0 : Kd.C k46 w A0 l0.length l0) (hc0 : l0.length ≤ c0) (hr2 : Kd.C Kd.string w A2 l2.length l2) (hc2 : l2.length ≤ c2) (hG : GT w) (h : impl_filesBelow.f k l0 a1 l2 = some r),
  Calls Tryz.prog 49 #[.slice A0 l0.length c0, .int .i64 a1, .slice A2 l2.length c2] w fun e w' => ∃ v0_ : Value, e = .returned (v0_) ∧ Kd.R Kd.string 9 w' w.heap.size (fun _ => True) v0_ r ∧ Below w.heap.size w w' := by
 induction k using Nat.strongRecOn with
 | _ k ih =>
 intro A0 c0 l0 a1 A2 c2 l2 r w hr0 hc0 hr2 hc2 hG h
 cases k with
 | zero => exact absurd h (by simp [impl_filesBelow.f])
 | succ k =>
 simp only [impl_filesBelow.f] at h
 have hu75 := Tryz.underlying75
 have HR0 := Aside0.mk hr0
 have HC0 := Aside0.mk hc0
 clear hr0 hc0
 have HR2 := Aside0.mk hr2
 have HC2 := Aside0.mk hc2
 clear hr2 hc2
 have HB := Aside0.mk (Below.refl w.heap.size w)
 have H : (if (l2.length : Int) = 3 then (some ([] : List ByteArray)) else ((impl_folderOf.f k l0 a1).bind fun bt297 => (impl_filesBelow.l0 k l0 l2 ([] : List ByteArray) bt297.1 (bt297.1.length : Int) 0))) = some r := h
 clear h
 by_cases c4 : (l2.length : Int) = 3
 ·rw [if_pos c4] at H
  have c4b0 : ((l2.length : Int) == 3) = true := beq_iff_eq.mpr c4
  have c4b1 : ((l2.length : Int) != 3) = false := bne_eq_false_iff_eq.mpr c4
  clear c4
  obtain rfl := Option.some.inj H
  go_enter Tryz.func49, Tryz.ntmps49
  go_wp2
  go_ret
  exact ⟨_, er_, by first | exact Kd.R_nil _ _ _ _ _ | exact Kd.N_nil _ _ _ _ _ | exact Kd.V_nil _ _ _ _ _ | exact Kd.Q_nil _ _ _ _ _ | exact Kd.S_nil _ _ _ _ _, hb_⟩
 ·rw [if_neg c4] at H
  have c4b0 : ((l2.length : Int) == 3) = false := beq_eq_false_iff_ne.mpr c4
  have c4b1 : ((l2.length : Int) != 3) = true := bne_iff_ne.mpr c4
  replace H := Option.bind_eq_some_iff.mp H
  obtain ⟨⟨t297, t298⟩, A50, H⟩ := H
  replace H : (impl_filesBelow.l0 k l0 l2 ([] : List ByteArray) t297 (t297.length : Int) 0) = some r := H
  have A5 := Aside0.mk A50
  clear A50
  have H' := Aside0.mk H
  clear H
  go_enter Tryz.func49, Tryz.ntmps49
  go_wp2_with (first | ((with_reducible refine gate_callee (f := 73) rfl ?_); refine goesL_ (some 21) rfl rfl Tryz.func73 (by kernel_rfl) rfl #[.slice A0 l0.length c0, .int .i64 a1] rfl sl_ ?_; (with_reducible refine (impl_folderOf.calls k _ _ l0 a1 t297 t298 _ ?side1 ?side2 (GT_on hb_ hG) A5.out).mono ?_); (case side1 => exact kC_ HR0.out); (case side2 => exact HC0.out); rintro e w6 ⟨v299, rfl, ho0, hb⟩; refine ⟨_, rfl, ?_⟩; have HO300 := Aside0.mk (Kd.R_lower ho0 (below_size hb_)); replace HB := Aside0.mk (below_step hb_ hb); (try clear hb); (try clear ho0); obtain ⟨Ao7, co7, eo7⟩ := Kd.R_slice HO300.out; subst eo7))
  go_loopg [9, 26] k (fun kq v9 v26 w' => ∃ (x9_1 : List ByteArray) (x26_1 : Int), v26 = .int .i64 x26_1 ∧ Aside0 (impl_filesBelow.l0 kq l0 l2 x9_1 t297 (t297.length : Int) x26_1 = some r) ∧ Aside0 (kq ≤ k) ∧ Aside0 (Kd.R Kd.string 9 w' w.heap.size (fun _ => True) v9 x9_1) ∧ Aside0 (Kd.R k75 75 w' w.heap.size (fun _ => True) (.slice Ao7 t297.length co7) t297) ∧ Aside0 (Below w.heap.size w w'))
  case atStart => exact ⟨(([] : List ByteArray)), (0), (by first | rfl | (simp; done) | (simp [*]; done)), H', ⟨Nat.le_refl _⟩, ⟨by first | exact Kd.R_nil _ _ _ _ _ | exact Kd.N_nil _ _ _ _ _ | exact Kd.V_nil _ _ _ _ _ | exact Kd.Q_nil _ _ _ _ _ | exact Kd.S_nil _ _ _ _ _⟩, ⟨by (with_reducible repeat (first | apply Kd.R_alloc | apply Kd.R_drewN | apply Kd.R_drew)); exact HO300.out⟩, ⟨hb_⟩⟩
  case round =>
   clear H'
   try clear c2
   try clear p2
   try clear c4
   try clear c4b0
   try clear c4b1
   try clear c7
   obtain ⟨x9_1, x26_1, rfl, HA, HK1, HO_9, HO_24, HB⟩ := hrel
   cases gk with
   | zero => exact absurd HA.out (by simp [impl_filesBelow.l0])
   | succ k1 =>
    have H := HA.out
    clear HA
    simp only [impl_filesBelow.l0] at H
    by_cases c8 : x26_1 < (t297.length : Int)
    ·rw [if_pos c8] at H
     have c8b0 : decide (x26_1 < (t297.length : Int)) = true := decide_eq_true c8
     clear c8
     by_cases c9 : 0 ≤ x26_1
     ·rw [if_pos c9] at H
      have c9b0 : decide (0 ≤ x26_1) = true := decide_eq_true c9
      clear c9
      by_cases c10 : x26_1 < (t297.length : Int)
      ·rw [if_pos c10] at H
       have c10b0 : decide (x26_1 < (t297.length : Int)) = true := decide_eq_true c10
       clear c10
       replace H := Option.bind_eq_some_iff.mp H
       obtain ⟨t303, A110, H⟩ := H
       replace H : ((some (([(rd_T75 t297 x26_1).f0] : List ByteArray) : List ByteArray)).bind fun y306 => (if t303.length + y306.length < 8796093022208 then ((some (t303 ++ y306 : List ByteArray)).bind fun y309 => ((impl_fileOf.f k1 l0 ((rd_T75 t297 x26_1).f1)).bind fun bt312 => (if bt312.2 = true then ((impl_JoinPath.f k1 y309).bind fun t314 => ((some (([t314] : List ByteArray) : List ByteArray)).bind fun y315 => (if x9_1.length + y315.length < 8796093022208 then (impl_filesBelow.l0 k1 l0 l2 (x9_1 ++ y315) t297 (t297.length : Int) (wrap64 (x26_1 + 1))) else (none)))) else ((impl_filesBelow.f k1 l0 ((rd_T75 t297 x26_1).f1) y309).bind fun t321 => (if x9_1.length + t321.length < 8796093022208 then (impl_filesBelow.l0 k1 l0 l2 (x9_1 ++ t321) t297 (t297.length : Int) (wrap64 (x26_1 + 1))) else (none)))))) else (none))) = some r := H
       have A11 := Aside0.mk A110
       clear A110
       obtain ⟨y306, hy306⟩ : ∃ y_ : List ByteArray, y_ = (([(rd_T75 t297 x26_1).f0] : List ByteArray)) := ⟨_, rfl⟩
       replace H : (if t303.length + y306.length < 8796093022208 then ((some (t303 ++ y306 : List ByteArray)).bind fun y309 => ((impl_fileOf.f k1 l0 ((rd_T75 t297 x26_1).f1)).bind fun bt312 => (if bt312.2 = true then ((impl_JoinPath.f k1 y309).bind fun t314 => ((some (([t314] : List ByteArray) : List ByteArray)).bind fun y315 => (if x9_1.length + y315.length < 8796093022208 then (impl_filesBelow.l0 k1 l0 l2 (x9_1 ++ y315) t297 (t297.length : Int) (wrap64 (x26_1 + 1))) else (none)))) else ((impl_filesBelow.f k1 l0 ((rd_T75 t297 x26_1).f1) y309).bind fun t321 => (if x9_1.length + t321.length < 8796093022208 then (impl_filesBelow.l0 k1 l0 l2 (x9_1 ++ t321) t297 (t297.length : Int) (wrap64 (x26_1 + 1))) else (none)))))) else (none)) = some r := by first | (rw [hy306]; with_reducible exact H) | (have H2_ := (Option.bind_some _ _).symm.trans H; rw [hy306]; with_reducible exact H2_) | (have H2_ := (Option.bind_some _ _).symm.trans H; with_reducible exact H2_) | with_reducible exact H | (rw [hy306]; exact H) | exact H
       have Ny306 := Aside0.mk hy306
       clear hy306
       by_cases c12 : t303.length + y306.length < 8796093022208
       ·rw [if_pos c12] at H
        have LMc12 := Aside0.mk c12
        clear c12
        obtain ⟨y309, hy309⟩ : ∃ y_ : List ByteArray, y_ = (t303 ++ y306) := ⟨_, rfl⟩
        replace H : ((impl_fileOf.f k1 l0 ((rd_T75 t297 x26_1).f1)).bind fun bt312 => (if bt312.2 = true then ((impl_JoinPath.f k1 y309).bind fun t314 => ((some (([t314] : List ByteArray) : List ByteArray)).bind fun y315 => (if x9_1.length + y315.length < 8796093022208 then (impl_filesBelow.l0 k1 l0 l2 (x9_1 ++ y315) t297 (t297.length : Int) (wrap64 (x26_1 + 1))) else (none)))) else ((impl_filesBelow.f k1 l0 ((rd_T75 t297 x26_1).f1) y309).bind fun t321 => (if x9_1.length + t321.length < 8796093022208 then (impl_filesBelow.l0 k1 l0 l2 (x9_1 ++ t321) t297 (t297.length : Int) (wrap64 (x26_1 + 1))) else (none))))) = some r := by first | (rw [hy309]; with_reducible exact H) | (have H2_ := (Option.bind_some _ _).symm.trans H; rw [hy309]; with_reducible exact H2_) | (have H2_ := (Option.bind_some _ _).symm.trans H; with_reducible exact H2_) | with_reducible exact H | (rw [hy309]; exact H) | exact H
        have Ny309 := Aside0.mk hy309
        clear hy309
        replace H := Option.bind_eq_some_iff.mp H
        obtain ⟨⟨t312, t313⟩, A130, H⟩ := H
        replace H : (if t313 = true then ((impl_JoinPath.f k1 y309).bind fun t314 => ((some (([t314] : List ByteArray) : List ByteArray)).bind fun y315 => (if x9_1.length + y315.length < 8796093022208 then (impl_filesBelow.l0 k1 l0 l2 (x9_1 ++ y315) t297 (t297.length : Int) (wrap64 (x26_1 + 1))) else (none)))) else ((impl_filesBelow.f k1 l0 ((rd_T75 t297 x26_1).f1) y309).bind fun t321 => (if x9_1.length + t321.length < 8796093022208 then (impl_filesBelow.l0 k1 l0 l2 (x9_1 ++ t321) t297 (t297.length : Int) (wrap64 (x26_1 + 1))) else (none)))) = some r := H
        have A13 := Aside0.mk A130
        clear A130
        by_cases c14 : t313 = true
        ·subst c14
         have H1 : ((impl_JoinPath.f k1 y309).bind fun t314 => ((some (([t314] : List ByteArray) : List ByteArray)).bind fun y315 => (if x9_1.length + y315.length < 8796093022208 then (impl_filesBelow.l0 k1 l0 l2 (x9_1 ++ y315) t297 (t297.length : Int) (wrap64 (x26_1 + 1))) else (none)))) = some r := by rw [if_pos rfl] at H; exact H
         clear H
         have H := H1
         clear H1
         replace H := Option.bind_eq_some_iff.mp H
         obtain ⟨t314, A150, H⟩ := H
         replace H : ((some (([t314] : List ByteArray) : List ByteArray)).bind fun y315 => (if x9_1.length + y315.length < 8796093022208 then (impl_filesBelow.l0 k1 l0 l2 (x9_1 ++ y315) t297 (t297.length : Int) (wrap64 (x26_1 + 1))) else (none))) = some r := H
         have A15 := Aside0.mk A150
         clear A150
         obtain ⟨y315, hy315⟩ : ∃ y_ : List ByteArray, y_ = (([t314] : List ByteArray)) := ⟨_, rfl⟩
         replace H : (if x9_1.length + y315.length < 8796093022208 then (impl_filesBelow.l0 k1 l0 l2 (x9_1 ++ y315) t297 (t297.length : Int) (wrap64 (x26_1 + 1))) else (none)) = some r := by first | (rw [hy315]; with_reducible exact H) | (have H2_ := (Option.bind_some _ _).symm.trans H; rw [hy315]; with_reducible exact H2_) | (have H2_ := (Option.bind_some _ _).symm.trans H; with_reducible exact H2_) | with_reducible exact H | (rw [hy315]; exact H) | exact H
         have Ny315 := Aside0.mk hy315
         clear hy315
         by_cases c16 : x9_1.length + y315.length < 8796093022208
         ·rw [if_pos c16] at H
          have LMc16 := Aside0.mk c16
          clear c16
          obtain ⟨y318, hy318⟩ : ∃ y_ : List ByteArray, y_ = (x9_1 ++ y315) := ⟨_, rfl⟩
          replace H : (impl_filesBelow.l0 k1 l0 l2 y318 t297 (t297.length : Int) (wrap64 (x26_1 + 1))) = some r := by first | (rw [hy318]; with_reducible exact H) | (have H2_ := (Option.bind_some _ _).symm.trans H; rw [hy318]; with_reducible exact H2_) | (have H2_ := (Option.bind_some _ _).symm.trans H; with_reducible exact H2_) | with_reducible exact H | (rw [hy318]; exact H) | exact H
          have Ny318 := Aside0.mk hy318
          clear hy318
          have H' := Aside0.mk H
          clear H
          have p301 : 0 ≤ (x26_1 : Int) := of_decide_eq_true ma_
          have q301 : x26_1 < (t297.length : Int) := of_decide_eq_true ma_
          obtain ⟨ad301, e301, hx301_0, hx301_1⟩ := at_T75 (Kd.R_reads' HO_24.out).2.2 x26_1 p301 q301
          cases e301
          replace p301 := eq_true p301
          replace q301 := eq_true q301
          try go_wp2_with (first | ((with_reducible refine gate_dst (N := 11) rfl ?_); refine box_event ?hg (N := 11) ?hd (cs := #[.string (⟨#[]⟩ : ByteArray), .int .i64 0]) (t := 75) ?hr ?_; (case hd => rfl); (case hg => rfl); (case hr => first | (go_simp; done) | (go_simp; rfl)); intro gb302 hg w17 hbox hb; have n0_ := Aside0.mk (Kd.R_below (kR_ HO_9.out) hb); have n1_ := Aside0.mk (Kd.R_below (Kd.R_elderB (kR_ HO_24.out) gb302 (Nat.le_of_eq hg.symm)) hb); have n2_ := Aside0.mk (below_step hb_ hb); have n3_ := Aside0.mk (hbox); have n4_ := Aside0.mk ((by rw [hg]; exact (below_size hb_) : w.heap.size ≤ gb302)); have n5_ := Aside0.mk ((by rw [hg]; exact (below_size hb_) : w.heap.size ≤ gb302)); clear HO_9; clear HO_24; clear HB; have HO_9 := n0_; have HO_24 := n1_; have HB := n2_; have BK302 := n3_; have GW302 := n4_; have GE302 := n5_; clear n0_ n1_ n2_ n3_ n4_ n5_; clear hb hbox hg; have hcz18_0 : w17.cell? ⟨gb302, 0, none⟩ = some (.string (⟨#[]⟩ : ByteArray)) := (blk_cell BK302.out 0).trans rfl; have hcz18_1 : w17.cell? ⟨gb302, 1, none⟩ = some (.int .i64 0) := (blk_cell BK302.out 1).trans rfl; have hfz18_0 := blk_frozen BK302.out 0; have hfz18_1 := blk_frozen BK302.out 1))
          have n0_ : Aside0 (Kd.R Kd.string 9 ((w17.setCell ⟨gb302, 0, none⟩ (.string ((rd_T75 t297 x26_1).f0))).setCell ⟨gb302, 1, none⟩ (.int .i64 ((rd_T75 t297 x26_1).f1))) w.heap.size (fun _ => True) u9 x9_1) := ⟨by (with_reducible repeat (first | apply Kd.R_alloc | apply Kd.R_drewN | apply Kd.R_drew)); exact Kd.R_mono (Kd.R_far (p := ⟨gb302, 1, none⟩) (Kd.R_far (p := ⟨gb302, 0, none⟩) (Kd.R_types HO_9.out BK302.out (by decide)) (fun _ hk => hk.2) (.string ((rd_T75 t297 x26_1).f0))) (fun _ hk => hk.2) (.int .i64 ((rd_T75 t297 x26_1).f1))) (fun _ hk => trivial)⟩
          have n1_ : Aside0 (Kd.R k75 75 ((w17.setCell ⟨gb302, 0, none⟩ (.string ((rd_T75 t297 x26_1).f0))).setCell ⟨gb302, 1, none⟩ (.int .i64 ((rd_T75 t297 x26_1).f1))) w.heap.size (fun k_ => k_ ≠ gb302) (.slice (some ad301) t297.length co7) t297) := ⟨by (with_reducible repeat (first | apply Kd.R_alloc | apply Kd.R_drewN | apply Kd.R_drew)); exact Kd.R_mono (Kd.R_far (p := ⟨gb302, 1, none⟩) (Kd.R_far (p := ⟨gb302, 0, none⟩) (Kd.R_mono HO_24.out (fun k_ hk => (⟨hk, hk.2⟩ : _ ∧ k_ ≠ gb302))) (fun _ hk => hk.2) (.string ((rd_T75 t297 x26_1).f0))) (fun _ hk => hk.2) (.int .i64 ((rd_T75 t297 x26_1).f1))) (fun _ hk => hk.1.2)⟩
          have n2_ : Aside0 (((w17.setCell ⟨gb302, 0, none⟩ (.string ((rd_T75 t297 x26_1).f0))).setCell ⟨gb302, 1, none⟩ (.int .i64 ((rd_T75 t297 x26_1).f1))).heap[gb302]? = some (.cells #[.string ((rd_T75 t297 x26_1).f0), .int .i64 ((rd_T75 t297 x26_1).f1)] 75 (0, 0))) := ⟨by (with_reducible repeat (first | refine blk_drewN ?_ _ | refine blk_drew ?_ | refine blk_alloc ?_ _)); refine blk_put (cs := #[.string ((rd_T75 t297 x26_1).f0), .int .i64 0]) ?_ 1 _ rfl; (with_reducible repeat (first | refine blk_drewN ?_ _ | refine blk_drew ?_ | refine blk_alloc ?_ _)); refine blk_put (cs := #[.string (⟨#[]⟩ : ByteArray), .int .i64 0]) ?_ 0 _ rfl; (with_reducible repeat (first | refine blk_drewN ?_ _ | refine blk_drew ?_ | refine blk_alloc ?_ _)); exact BK302.out⟩
          have n3_ : Aside0 (Below w.heap.size w ((w17.setCell ⟨gb302, 0, none⟩ (.string ((rd_T75 t297 x26_1).f0))).setCell ⟨gb302, 1, none⟩ (.int .i64 ((rd_T75 t297 x26_1).f1)))) := ⟨by repeat (first | (with_reducible first | exact HB.out | apply below_alloc | apply pw_below_drewN | apply below_drew1 | refine below_set ?_ GE302.out) | exact HB.out)⟩
          (try clear HO_9)
          (try clear HO_24)
          (try clear BK302)
          (try clear HB)
          generalize ((w17.setCell ⟨gb302, 0, none⟩ (.string ((rd_T75 t297 x26_1).f0))).setCell ⟨gb302, 1, none⟩ (.int .i64 ((rd_T75 t297 x26_1).f1))) = w19 at n0_ n1_ n2_ n3_ ⊢
          have HO_9 := n0_
          have HO_24 := n1_
          have BK302 := n2_
          have HB := n3_
          clear n0_ n1_ n2_ n3_
          have n0_ := Aside0.mk (Kd.R_drew HO_9.out)
          have n1_ := Aside0.mk (Kd.R_drew HO_24.out)
          have n2_ := Aside0.mk (blk_drew BK302.out)
          have n3_ := Aside0.mk (below_drew1 HB.out)
          clear HO_9
          clear HO_24
          clear BK302
          clear HB
          have HO_9 := n0_
          have HO_24 := n1_
          have BK302 := n2_
          have HB := n3_
          clear n0_ n1_ n2_ n3_
          refine start_ (n := 7) (S := fun w' => w'.cell? ⟨gb302, 0, none⟩ = some (.string ((rd_T75 t297 x26_1).f0)) ∧ w'.cell? ⟨gb302, 1, none⟩ = some (.int .i64 ((rd_T75 t297 x26_1).f1))) (ds := []) (tf_ 0 7) (by kernel_rfl) rfl rfl ⟨(blk_cell BK302.out 0).trans rfl, (blk_cell BK302.out 1).trans rfl⟩ (fun hHeld => ?_)
          generalize w19.drew = w20 at HO_9 HO_24 BK302 HB hHeld ⊢
          refine pure_ (i := 0) (N := some 30) (v := ?_) (a' := ?_) (tf_ 1 6) rfl rfl (by kernel_rfl) (fun _ _ _ h => h) (Or.inl ⟨by rfl, ?_⟩) ?_ ?_
          rotate_left
          ·intro w'
           go_simp
           with_reducible rfl
          rotate_left
          ·simp only [Act.put, List.setIfInBounds_toArray, List.set_cons_zero, List.set_cons_succ, i64_w, i32_w]
           rfl
          refine pure_ (i := 2) (N := some 32) (v := ?_) (a' := ?_) #[true, false, true, false, false, false, false] rfl rfl (by kernel_rfl) (fun _ _ _ h => h) (Or.inl ⟨by rfl, ?_⟩) ?_ ?_
          rotate_left
          ·intro w'
           go_simp
           with_reducible rfl
          rotate_left
          ·simp only [Act.put, List.setIfInBounds_toArray, List.set_cons_zero, List.set_cons_succ, i64_w, i32_w]
           rfl
          refine take_ (i := 3) (N := some 33) (v := ?_) (a' := ?_) #[true, false, true, true, false, false, false] rfl rfl (by kernel_rfl) (fun _ _ _ h => h) (Or.inl ⟨by rfl, ?_⟩) hHeld ?_ ?_
          rotate_left
          ·rintro w' ⟨s0, s1⟩
           go_simp
           with_reducible rfl
          rotate_left
          ·simp only [Act.put, List.setIfInBounds_toArray, List.set_cons_zero, List.set_cons_succ, i64_w, i32_w]
           rfl
          refine join_ (σ := Value × Value) 2 (tf_ 5 2) (fun s_ => [(31, s_.1), (34, s_.2)]) (fun s_ w' => (w'.cell? ⟨gb302, 0, none⟩ = some (.string ((rd_T75 t297 x26_1).f0)) ∧ w'.cell? ⟨gb302, 1, none⟩ = some (.int .i64 ((rd_T75 t297 x26_1).f1))) ∧ (Kd.R Kd.string 9 w' w.heap.size (fun k_ => some k_ ≠ (s_.2 : Value).ownBlock ∧ some k_ ≠ (u9 : Value).ownBlock) s_.1 t303) ∧ (Kd.R Kd.string 9 w' w.heap.size (fun k_ => some k_ ≠ (s_.1 : Value).ownBlock ∧ some k_ ≠ (u9 : Value).ownBlock) s_.2 y306) ∧ (Kd.R k75 75 w' w.heap.size (fun k_ => k_ ≠ gb302) (.slice (some ad301) t297.length co7) t297) ∧ (Kd.R Kd.string 9 w' w.heap.size (fun k_ => some k_ ≠ (s_.1 : Value).ownBlock ∧ some k_ ≠ (s_.2 : Value).ownBlock) u9 x9_1) ∧ (w'.heap[gb302]? = some (.cells #[.string ((rd_T75 t297 x26_1).f0), .int .i64 ((rd_T75 t297 x26_1).f1)] 75 (0, 0))) ∧ (Below w.heap.size w w')) ?_ ?_
          rotate_left
          ·intro hCont
           refine two_ (i := 1) (j := 4) (Ni := some 31) (Nj := some 34) (tf_ 4 3) #[true, false, true, true, true, false, false] rfl rfl rfl rfl (by kernel_rfl) (by decide) (by decide) (fun K hK => ?_) (fun K hK => ?_)
           ·skip
            refine goes_ Tryz.func74 (by kernel_rfl) rfl #[.slice A2 l2.length c2] (by rfl) rfl rfl sl_ ?_
            with_reducible refine (slices_Clone_string.calls _ _ l2 t303 _ ?side1 ?side2 A11.out).mono ?_
            (case side1 => exact kC_ (Kd.C_below HR2.out HB.out))
            (case side2 => exact HC2.out)
            rintro e w21 ⟨v304, rfl, ho0, hb⟩
            refine ⟨_, rfl, ?_⟩
            have n0_ := Aside0.mk (Kd.R_elder' (kR_ HO_9.out) (Kd.R_base ho0) hb)
            have n1_ := Aside0.mk (Kd.R_below (kR_ HO_24.out) hb)
            have n2_ := Aside0.mk (Kd.R_lower (Kd.R_new' ho0 (Kd.R_lt (kR_ HO_9.out))) (below_size (by repeat (first | (with_reducible first | exact HB.out | apply below_alloc | apply pw_below_drewN | apply below_drew1 | refine below_set ?_ GE302.out) | exact HB.out))))
            have n3_ := Aside0.mk (blk_below (g := gb302) (o := .cells #[.string ((rd_T75 t297 x26_1).f0), .int .i64 ((rd_T75 t297 x26_1).f1)] 75 (0, 0)) (kB_ BK302.out) hb)
            have n4_ := Aside0.mk (below_step (by repeat (first | (with_reducible first | exact HB.out | apply below_alloc | apply pw_below_drewN | apply below_drew1 | refine below_set ?_ GE302.out) | exact HB.out)) hb)
            clear HO_9
            clear HO_24
            clear BK302
            clear HB
            have HO_9 := n0_
            have HO_24 := n1_
            have HO305 := n2_
            have BK302 := n3_
            have HB := n4_
            clear n0_ n1_ n2_ n3_ n4_
            (try clear hb)
            (try clear hb2)
            (try clear hk)
            (try clear hi)
            (try clear ho0)
            refine hK.out _ _ ⟨(blk_cell BK302.out 0).trans rfl, (blk_cell BK302.out 1).trans rfl⟩ (fun hHeld => ?_)
            clear hK K
            refine norm_ (a' := ?_) ?_ ?_
            rotate_left
            ·show Act.put _ (some 31) _ = _
             simp only [Act.put, List.setIfInBounds_toArray, List.set_cons_zero, List.set_cons_succ, i64_w, i32_w]
             rfl
            refine one_ (i := 4) (N := some 34) (tf_ 5 2) rfl rfl (by kernel_rfl) (by decide) (fun K hK => ?_)
            refine Kd.R_lit_step Kd.string _ 9 ?hg (N := 34) ?hd (xs := ([(rd_T75 t297 x26_1).f0] : List ByteArray)) (inner := [.string ((rd_T75 t297 x26_1).f0)]) (ok := fun _ => True) (okp := fun _ => True) ?hr ?hp (fun _ hk => hk) trivial (Below.refl _ _) (Nat.le_refl _) (by simp) ?_; (case hd => rfl); (case hg => rfl); (case hr => first | (go_simp; done) | (go_simp; rfl)); (case hp => exact (Reps.one (show Kd.M Kd.string _ _ _ ((rd_T75 t297 x26_1).f0) [.string ((rd_T75 t297 x26_1).f0)] from rfl) (Reps.none _ _)))
            intro v307 w22 ho23 hb hg_ hnew_
            clear hg_ hnew_
            (first | rw [← Ny306.out] at ho23 | (simp only [Int.reduceToNat] at ho23; rw [← Ny306.out] at ho23))
            have n0_ := Aside0.mk (Kd.R_elder' (kR_ HO_9.out) (Kd.R_base ho23) hb)
            have n1_ := Aside0.mk (Kd.R_below (kR_ HO_24.out) hb)
            have n2_ := Aside0.mk (Kd.R_elder' (kR_ HO305.out) (Kd.R_base ho23) hb)
            have n3_ := Aside0.mk (Kd.R_lower (Kd.R_new' (Kd.R_new' ho23 (Kd.R_lt (kR_ HO_9.out))) (Kd.R_lt (kR_ HO305.out))) (below_size (by repeat (first | (with_reducible first | exact HB.out | apply below_alloc | apply pw_below_drewN | apply below_drew1 | refine below_set ?_ GE302.out) | exact HB.out))))
            have n4_ := Aside0.mk (blk_below (g := gb302) (o := .cells #[.string ((rd_T75 t297 x26_1).f0), .int .i64 ((rd_T75 t297 x26_1).f1)] 75 (0, 0)) (kB_ BK302.out) hb)
            have n5_ := Aside0.mk (below_step (by repeat (first | (with_reducible first | exact HB.out | apply below_alloc | apply pw_below_drewN | apply below_drew1 | refine below_set ?_ GE302.out) | exact HB.out)) hb)
            clear HO_9
            clear HO_24
            clear HO305
            clear BK302
            clear HB
            have HO_9 := n0_
            have HO_24 := n1_
            have HO305 := n2_
            have HO308 := n3_
            have BK302 := n4_
            have HB := n5_
            clear n0_ n1_ n2_ n3_ n4_ n5_
            clear hb ho23
            refine hK.out _ _ ⟨(blk_cell BK302.out 0).trans rfl, (blk_cell BK302.out 1).trans rfl⟩ (fun hHeld => ?_)
            clear hK K
            refine norm_ (a' := ?_) ?_ ?_
            rotate_left
            ·show Act.put _ (some 34) _ = _
             simp only [Act.put, List.setIfInBounds_toArray, List.set_cons_zero, List.set_cons_succ, i64_w, i32_w]
             rfl
            exact norm_ (by simp only [putAll, Act.put, List.setIfInBounds_toArray, List.set_cons_zero, List.set_cons_succ]) (hCont (v304, v307) _ ⟨hHeld, (by (with_reducible repeat (first | apply Kd.R_alloc | apply Kd.R_drewN | apply Kd.R_drew)); exact Kd.R_mono HO305.out (fun _ hk => ⟨hk.2, hk.1.2⟩)), (by (with_reducible repeat (first | apply Kd.R_alloc | apply Kd.R_drewN | apply Kd.R_drew)); exact Kd.R_mono HO308.out (fun _ hk => ⟨hk.2, hk.1.2⟩)), (kR_ HO_24.out), (by (with_reducible repeat (first | apply Kd.R_alloc | apply Kd.R_drewN | apply Kd.R_drew)); exact Kd.R_mono HO_9.out (fun _ hk => ⟨hk.1.2, hk.2⟩)), (kB_ BK302.out), (by repeat (first | (with_reducible first | exact HB.out | apply below_alloc | apply pw_below_drewN | apply below_drew1 | refine below_set ?_ GE302.out) | exact HB.out))⟩)
           ·skip
            refine Kd.R_lit_step Kd.string _ 9 ?hg (N := 34) ?hd (xs := ([(rd_T75 t297 x26_1).f0] : List ByteArray)) (inner := [.string ((rd_T75 t297 x26_1).f0)]) (ok := fun _ => True) (okp := fun _ => True) ?hr ?hp (fun _ hk => hk) trivial (Below.refl _ _) (Nat.le_refl _) (by simp) ?_; (case hd => rfl); (case hg => rfl); (case hr => first | (go_simp; done) | (go_simp; rfl)); (case hp => exact (Reps.one (show Kd.M Kd.string _ _ _ ((rd_T75 t297 x26_1).f0) [.string ((rd_T75 t297 x26_1).f0)] from rfl) (Reps.none _ _)))
            intro v307 w21 ho22 hb hg_ hnew_
            clear hg_ hnew_
            (first | rw [← Ny306.out] at ho22 | (simp only [Int.reduceToNat] at ho22; rw [← Ny306.out] at ho22))
            have n0_ := Aside0.mk (Kd.R_elder' (kR_ HO_9.out) (Kd.R_base ho22) hb)
            have n1_ := Aside0.mk (Kd.R_below (kR_ HO_24.out) hb)
            have n2_ := Aside0.mk (Kd.R_lower (Kd.R_new' ho22 (Kd.R_lt (kR_ HO_9.out))) (below_size (by repeat (first | (with_reducible first | exact HB.out | apply below_alloc | apply pw_below_drewN | apply below_drew1 | refine below_set ?_ GE302.out) | exact HB.out))))
            have n3_ := Aside0.mk (blk_below (g := gb302) (o := .cells #[.string ((rd_T75 t297 x26_1).f0), .int .i64 ((rd_T75 t297 x26_1).f1)] 75 (0, 0)) (kB_ BK302.out) hb)
            have n4_ := Aside0.mk (below_step (by repeat (first | (with_reducible first | exact HB.out | apply below_alloc | apply pw_below_drewN | apply below_drew1 | refine below_set ?_ GE302.out) | exact HB.out)) hb)
            clear HO_9
            clear HO_24
            clear BK302
            clear HB
            have HO_9 := n0_
            have HO_24 := n1_
            have HO308 := n2_
            have BK302 := n3_
            have HB := n4_
            clear n0_ n1_ n2_ n3_ n4_
            clear hb ho22
            refine hK.out _ _ ⟨(blk_cell BK302.out 0).trans rfl, (blk_cell BK302.out 1).trans rfl⟩ (fun hHeld => ?_)
            clear hK K
            refine norm_ (a' := ?_) ?_ ?_
            rotate_left
            ·show Act.put _ (some 34) _ = _
             simp only [Act.put, List.setIfInBounds_toArray, List.set_cons_zero, List.set_cons_succ, i64_w, i32_w]
             rfl
            refine one_ (i := 1) (N := some 31) (tf_ 5 2) rfl rfl (by kernel_rfl) (by decide) (fun K hK => ?_)
            refine goes_ Tryz.func74 (by kernel_rfl) rfl #[.slice A2 l2.length c2] (by rfl) rfl rfl sl_ ?_
            with_reducible refine (slices_Clone_string.calls _ _ l2 t303 _ ?side1 ?side2 A11.out).mono ?_
            (case side1 => exact kC_ (Kd.C_below HR2.out HB.out))
            (case side2 => exact HC2.out)
            rintro e w23 ⟨v304, rfl, ho0, hb⟩
            refine ⟨_, rfl, ?_⟩
            have n0_ := Aside0.mk (Kd.R_elder' (kR_ HO_9.out) (Kd.R_base ho0) hb)
            have n1_ := Aside0.mk (Kd.R_below (kR_ HO_24.out) hb)
            have n2_ := Aside0.mk (Kd.R_elder' (kR_ HO308.out) (Kd.R_base ho0) hb)
            have n3_ := Aside0.mk (Kd.R_lower (Kd.R_new' (Kd.R_new' ho0 (Kd.R_lt (kR_ HO_9.out))) (Kd.R_lt (kR_ HO308.out))) (below_size (by repeat (first | (with_reducible first | exact HB.out | apply below_alloc | apply pw_below_drewN | apply below_drew1 | refine below_set ?_ GE302.out) | exact HB.out))))
            have n4_ := Aside0.mk (blk_below (g := gb302) (o := .cells #[.string ((rd_T75 t297 x26_1).f0), .int .i64 ((rd_T75 t297 x26_1).f1)] 75 (0, 0)) (kB_ BK302.out) hb)
            have n5_ := Aside0.mk (below_step (by repeat (first | (with_reducible first | exact HB.out | apply below_alloc | apply pw_below_drewN | apply below_drew1 | refine below_set ?_ GE302.out) | exact HB.out)) hb)
            clear HO_9
            clear HO_24
            clear HO308
            clear BK302
            clear HB
            have HO_9 := n0_
            have HO_24 := n1_
            have HO308 := n2_
            have HO305 := n3_
            have BK302 := n4_
            have HB := n5_
            clear n0_ n1_ n2_ n3_ n4_ n5_
            (try clear hb)
            (try clear hb2)
            (try clear hk)
            (try clear hi)
            (try clear ho0)
            refine hK.out _ _ ⟨(blk_cell BK302.out 0).trans rfl, (blk_cell BK302.out 1).trans rfl⟩ (fun hHeld => ?_)
            clear hK K
            refine norm_ (a' := ?_) ?_ ?_
            rotate_left
            ·show Act.put _ (some 31) _ = _
             simp only [Act.put, List.setIfInBounds_toArray, List.set_cons_zero, List.set_cons_succ, i64_w, i32_w]
             rfl
            exact norm_ (by simp only [putAll, Act.put, List.setIfInBounds_toArray, List.set_cons_zero, List.set_cons_succ]) (hCont (v304, v307) _ ⟨hHeld, (by (with_reducible repeat (first | apply Kd.R_alloc | apply Kd.R_drewN | apply Kd.R_drew)); exact Kd.R_mono HO305.out (fun _ hk => ⟨hk.2, hk.1.2⟩)), (by (with_reducible repeat (first | apply Kd.R_alloc | apply Kd.R_drewN | apply Kd.R_drew)); exact Kd.R_mono HO308.out (fun _ hk => ⟨hk.2, hk.1.2⟩)), (kR_ HO_24.out), (by (with_reducible repeat (first | apply Kd.R_alloc | apply Kd.R_drewN | apply Kd.R_drew)); exact Kd.R_mono HO_9.out (fun _ hk => ⟨hk.2, hk.1.2⟩)), (kB_ BK302.out), (by repeat (first | (with_reducible first | exact HB.out | apply below_alloc | apply pw_below_drewN | apply below_drew1 | refine below_set ?_ GE302.out) | exact HB.out))⟩)
          rintro ⟨v304, v307⟩ w24 ⟨hS_, h0_, h1_, h2_, h3_, h4_, h5_⟩
          have n0_ : Aside0 (Kd.R Kd.string 9 w24 w.heap.size (fun k_ => some k_ ≠ (v307 : Value).ownBlock ∧ some k_ ≠ (u9 : Value).ownBlock) v304 t303) := ⟨h0_⟩
          have n1_ : Aside0 (Kd.R Kd.string 9 w24 w.heap.size (fun k_ => some k_ ≠ (v304 : Value).ownBlock ∧ some k_ ≠ (u9 : Value).ownBlock) v307 y306) := ⟨h1_⟩
          have n2_ : Aside0 (Kd.R k75 75 w24 w.heap.size (fun k_ => k_ ≠ gb302) (.slice (some ad301) t297.length co7) t297) := ⟨h2_⟩
          have n3_ : Aside0 (Kd.R Kd.string 9 w24 w.heap.size (fun k_ => some k_ ≠ (v304 : Value).ownBlock ∧ some k_ ≠ (v307 : Value).ownBlock) u9 x9_1) := ⟨h3_⟩
          have n4_ : Aside0 (w24.heap[gb302]? = some (.cells #[.string ((rd_T75 t297 x26_1).f0), .int .i64 ((rd_T75 t297 x26_1).f1)] 75 (0, 0))) := ⟨h4_⟩
          have n5_ : Aside0 (Below w.heap.size w w24) := ⟨h5_⟩
          clear HO_9
          clear HO_24
          clear BK302
          clear HB
          clear h0_ h1_ h2_ h3_ h4_ h5_
          have HO305 := n0_
          have HO308 := n1_
          have HO_24 := n2_
          have HO_9 := n3_
          have BK302 := n4_
          have HB := n5_
          clear n0_ n1_ n2_ n3_ n4_ n5_
          have hHeld : w24.cell? ⟨gb302, 0, none⟩ = some (.string ((rd_T75 t297 x26_1).f0)) ∧ w24.cell? ⟨gb302, 1, none⟩ = some (.int .i64 ((rd_T75 t297 x26_1).f1)) := hS_
          obtain ⟨Ao26, co26, eo26⟩ := Kd.R_slice HO308.out
          (first | subst eo26 | (injection eo26 with f1_ f2_ f3_; have f4_ := f1_.symm; have f5_ := f3_.symm; clear f1_ f2_ f3_; subst f4_; subst f5_))
          refine norm_ (a' := ?_) ?_ ?_
          rotate_left
          ·simp only [putAll, Act.put, List.setIfInBounds_toArray, List.set_cons_zero, List.set_cons_succ]
           rfl
          refine one_ (i := 5) (N := some 35) (tf_ 6 1) rfl rfl (by kernel_rfl) (by decide) (fun K hK => ?_)
          refine Kd.R_append_rows_step Kd.string (w0 := w) w.heap.size (by rfl) (.tmp 31) (.tmp 34) 24 9 (.string ⟨#[]⟩) 16 rfl Tryz.underlying24 info9 rfl (by decide) (by omega) v304 t303 y306 _ _ _ (fun k_ => some k_ ≠ (u9 : Value).ownBlock ∧ some k_ ≠ (.slice Ao26 y306.length co26 : Value).ownBlock) (fun _ => False) rfl rfl ?aO ?aR (fun _ _ h => h) (fun _ h => h.elim) ?aF ?aB ?aS ?aL ?_
          (case aR => repeat (first | exact (Kd.R_reads' HO308.out).2.2 | (with_reducible refine Kd.C_alloc ?_ _) | (with_reducible refine Kd.C_drewN ?_ _) | (with_reducible refine Kd.C_drew ?_)))
          (case aB => exact (by repeat (first | (with_reducible first | exact HB.out | apply below_alloc | apply pw_below_drewN | apply below_drew1 | refine below_set ?_ GE302.out) | exact HB.out)))
          (case aF => exact (fun k_ hk => ⟨Kd.fresh' (Kd.R_lt (kR_ HO_9.out)) k_ hk, Kd.fresh' (Kd.R_lt (kR_ HO308.out)) k_ hk⟩))
          (case aO => exact (by (with_reducible repeat (first | apply Kd.R_alloc | apply Kd.R_drewN | apply Kd.R_drew)); exact Kd.R_mono HO305.out (fun _ hk => ⟨hk.2, hk.1⟩)))
          (case aS => exact (below_size (by repeat (first | (with_reducible first | exact HB.out | apply below_alloc | apply pw_below_drewN | apply below_drew1 | refine below_set ?_ GE302.out) | exact HB.out))))
          (case aL => have := LMc12.out; omega)
          intro v310 w25 ho hb hg hat
          rw [← Ny309.out] at ho
          have n0_ := Aside0.mk (Kd.R_after (ok := (fun k_ => some k_ ≠ (.slice Ao26 y306.length co26 : Value).ownBlock)) (by (with_reducible repeat (first | apply Kd.R_alloc | apply Kd.R_drewN | apply Kd.R_drew)); exact Kd.R_mono HO_9.out (fun _ hk => ⟨hk.2, hk.1⟩)) hg hat)
          have n1_ := Aside0.mk (Kd.R_over' (kR_ HO_24.out) (Kd.R_typed (kR_ HO305.out)) (by decide) hg)
          have n2_ := Aside0.mk (blk_grown (g := gb302) (o := .cells #[.string ((rd_T75 t297 x26_1).f0), .int .i64 ((rd_T75 t297 x26_1).f1)] 75 (0, 0)) (kB_ BK302.out) hg (Kd.R_ne HO305.out BK302.out (by decide)))
          have n3_ := Aside0.mk (Kd.R_after (ok := (fun k_ => some k_ ≠ (u9 : Value).ownBlock)) (by (with_reducible repeat (first | apply Kd.R_alloc | apply Kd.R_drewN | apply Kd.R_drew)); exact Kd.R_mono HO308.out (fun _ hk => ⟨hk.2, hk.1⟩)) hg hat)
          have n4_ := Aside0.mk (hb)
          have n5_ := Aside0.mk (ho)
          clear HO_9
          clear HO_24
          clear BK302
          clear HO308
          clear HB
          clear HO305
          have HO_9 := n0_
          have HO_24 := n1_
          have BK302 := n2_
          have HO308 := n3_
          have HB := n4_
          have HO311 := n5_
          clear n0_ n1_ n2_ n3_ n4_ n5_
          clear ho hb hg hat
          refine hK.out _ _ ⟨(blk_cell BK302.out 0).trans rfl, (blk_cell BK302.out 1).trans rfl⟩ (fun hHeld => ?_)
          clear hK K
          refine norm_ (a' := ?_) ?_ ?_
          rotate_left
          ·show Act.put _ (some 35) _ = _
           simp only [Act.put, List.setIfInBounds_toArray, List.set_cons_zero, List.set_cons_succ, i64_w, i32_w]
           rfl
          refine pure_ (i := 6) (N := some 12) (v := ?_) (a' := ?_) (tf_ 7 0) rfl rfl (by kernel_rfl) (fun _ _ _ h => h) (Or.inl ⟨by rfl, ?_⟩) ?_ ?_
          rotate_left
          ·intro w'
           go_simp
           with_reducible rfl
          rotate_left
          ·simp only [Act.put, List.setIfInBounds_toArray, List.set_cons_zero, List.set_cons_succ, i64_w, i32_w]
           rfl
          refine done_ (by kernel_rfl) ?_
          have hcz27_0 : w25.cell? ⟨gb302, 0, none⟩ = some (.string ((rd_T75 t297 x26_1).f0)) := (blk_cell BK302.out 0).trans rfl
          have hcz27_1 : w25.cell? ⟨gb302, 1, none⟩ = some (.int .i64 ((rd_T75 t297 x26_1).f1)) := (blk_cell BK302.out 1).trans rfl
          have hfz27_0 := blk_frozen BK302.out 0
          have hfz27_1 := blk_frozen BK302.out 1
          try go_wp2_with (first | ((with_reducible refine gate_callee (f := 72) rfl ?_); refine goesL_ (some 40) rfl rfl Tryz.func72 (by kernel_rfl) rfl #[.slice A0 l0.length c0, .int .i64 ((rd_T75 t297 x26_1).f1)] rfl sl_ ?_; (with_reducible refine (impl_fileOf.calls k1 _ _ l0 ((rd_T75 t297 x26_1).f1) t312 true _ ?side1 ?side2 A13.out).mono ?_); (case side1 => exact kC_ (Kd.C_below HR0.out HB.out)); (case side2 => exact HC0.out); rintro e w28 ⟨rfl, hb⟩; refine ⟨_, rfl, ?_⟩; replace HO_9 := Aside0.mk (Kd.R_below (kR_ HO_9.out) hb); replace HO_24 := Aside0.mk (Kd.R_below (kR_ HO_24.out) hb); replace HO308 := Aside0.mk (Kd.R_below (kR_ HO308.out) hb); replace HO311 := Aside0.mk (Kd.R_below (kR_ HO311.out) hb); replace BK302 := Aside0.mk (blk_below (g := gb302) (o := .cells #[.string ((rd_T75 t297 x26_1).f0), .int .i64 ((rd_T75 t297 x26_1).f1)] 75 (0, 0)) (kB_ BK302.out) hb); replace HB := Aside0.mk (below_step (by repeat (first | (with_reducible first | exact HB.out | apply below_alloc | apply pw_below_drewN | apply below_drew1 | refine below_set ?_ GE302.out) | exact HB.out)) hb); (try clear hb); (try clear hk); obtain ⟨Ao29, co29, eo29⟩ := Kd.R_slice HO311.out; subst eo29) | ((with_reducible refine gate_callee (f := 52) rfl ?_); refine goesL_ (some 46) rfl rfl Tryz.func52 (by kernel_rfl) rfl #[.slice Ao29 y309.length co29] rfl sl_ ?_; (with_reducible refine (impl_JoinPath.calls k1 _ _ y309 t314 _ ?side1 ?side2 A15.out).mono ?_); (case side1 => exact kC_ ((Kd.R_reads' HO311.out).2.2)); (case side2 => exact (Kd.R_reads' HO311.out).2.1); rintro e w30 ⟨rfl, hb⟩; refine ⟨_, rfl, ?_⟩; replace HO_9 := Aside0.mk (Kd.R_below (kR_ HO_9.out) hb); replace HO_24 := Aside0.mk (Kd.R_below (kR_ HO_24.out) hb); replace HO308 := Aside0.mk (Kd.R_below (kR_ HO308.out) hb); replace HO311 := Aside0.mk (Kd.R_below (kR_ HO311.out) hb); replace BK302 := Aside0.mk (blk_below (g := gb302) (o := .cells #[.string ((rd_T75 t297 x26_1).f0), .int .i64 ((rd_T75 t297 x26_1).f1)] 75 (0, 0)) (kB_ BK302.out) hb); replace HB := Aside0.mk (below_step (by repeat (first | (with_reducible first | exact HB.out | apply below_alloc | apply pw_below_drewN | apply below_drew1 | refine below_set ?_ GE302.out) | exact HB.out)) hb); (try clear hb); (try clear hk)) | ((with_reducible refine gate_dst (N := 47) rfl ?_); refine Kd.R_lit Kd.string _ 9 ?hg (N := 47) ?hd (xs := ([t314] : List ByteArray)) (inner := [.string t314]) (ok := fun _ => True) (okp := fun _ => True) ?hr ?hp (fun _ hk => hk) trivial (Below.refl _ _) (Nat.le_refl _) (by simp) ?_; (case hd => rfl); (case hg => rfl); (case hr => first | (go_simp; done) | (go_simp; rfl)); (case hp => exact (Reps.one (show Kd.M Kd.string _ _ _ t314 [.string t314] from rfl) (Reps.none _ _))); intro v316 w31 ho32 hb hg_ hnew_; clear hg_ hnew_; (first | rw [← Ny315.out] at ho32 | (simp only [Int.reduceToNat] at ho32; rw [← Ny315.out] at ho32)); replace HO_24 := Aside0.mk (Kd.R_below (kR_ HO_24.out) hb); have HO317 := Aside0.mk (Kd.R_lower (Kd.R_new' (Kd.R_new' (Kd.R_new' ho32 (Kd.R_lt (kR_ HO_9.out))) (Kd.R_lt (kR_ HO308.out))) (Kd.R_lt (kR_ HO311.out))) (below_size (by repeat (first | (with_reducible first | exact HB.out | apply below_alloc | apply pw_below_drewN | apply below_drew1 | refine below_set ?_ GE302.out) | exact HB.out)))); replace HO_9 := Aside0.mk (Kd.R_elder' (kR_ HO_9.out) (Kd.R_base ho32) hb); replace HO308 := Aside0.mk (Kd.R_elder' (kR_ HO308.out) (Kd.R_base ho32) hb); replace HO311 := Aside0.mk (Kd.R_elder' (kR_ HO311.out) (Kd.R_base ho32) hb); replace BK302 := Aside0.mk (blk_below (g := gb302) (o := .cells #[.string ((rd_T75 t297 x26_1).f0), .int .i64 ((rd_T75 t297 x26_1).f1)] 75 (0, 0)) (kB_ BK302.out) hb); replace HB := Aside0.mk (below_step (by repeat (first | (with_reducible first | exact HB.out | apply below_alloc | apply pw_below_drewN | apply below_drew1 | refine below_set ?_ GE302.out) | exact HB.out)) hb); clear hb ho32; obtain ⟨Ao34, co34, eo34⟩ := Kd.R_slice HO317.out; subst eo34) | ((with_reducible refine gate_builtin (b := .append) (xs := #[.tmp 44, .tmp 47]) rfl ?_); at_builtin; refine Kd.R_append_rows Kd.string (w0 := w) w.heap.size rfl (.tmp 44) (.tmp 47) 24 9 (.string ⟨#[]⟩) 16 rfl Tryz.underlying24 info9 rfl (by decide) (by omega) u9 x9_1 y315 _ _ _ (fun k_ => some k_ ≠ (.slice Ao26 y306.length co26 : Value).ownBlock ∧ some k_ ≠ (.slice Ao29 y309.length co29 : Value).ownBlock ∧ some k_ ≠ (.slice Ao34 y315.length co34 : Value).ownBlock) (fun _ => False) rfl rfl ?aO ?aR (fun _ _ h => h) (fun _ h => h.elim) ?aF ?aB ?aS ?aL ?_; (case aR => repeat (first | exact (Kd.R_reads' HO317.out).2.2 | (with_reducible refine Kd.C_alloc ?_ _) | (with_reducible refine Kd.C_drewN ?_ _) | (with_reducible refine Kd.C_drew ?_))); (case aB => exact (by repeat (first | (with_reducible first | exact HB.out | apply below_alloc | apply pw_below_drewN | apply below_drew1 | refine below_set ?_ GE302.out) | exact HB.out))); (case aF => exact (fun k_ hk => ⟨Kd.fresh' (Kd.R_lt (kR_ HO308.out)) k_ hk, Kd.fresh' (Kd.R_lt (kR_ HO311.out)) k_ hk, Kd.fresh' (Kd.R_lt (kR_ HO317.out)) k_ hk⟩)); (case aO => exact (by (with_reducible repeat (first | apply Kd.R_alloc | apply Kd.R_drewN | apply Kd.R_drew)); exact Kd.R_mono HO_9.out (fun _ hk => ⟨hk.1.1, ⟨hk.1.2, hk.2⟩⟩))); (case aS => exact (below_size (by repeat (first | (with_reducible first | exact HB.out | apply below_alloc | apply pw_below_drewN | apply below_drew1 | refine below_set ?_ GE302.out) | exact HB.out)))); (case aL => have := LMc16.out; omega); intro v319 w33 ho hb hg hat; rw [← Ny318.out] at ho; have n0_ := Aside0.mk (Kd.R_over' (kR_ HO_24.out) (Kd.R_typed (kR_ HO_9.out)) (by decide) hg); have n1_ := Aside0.mk (blk_grown (g := gb302) (o := .cells #[.string ((rd_T75 t297 x26_1).f0), .int .i64 ((rd_T75 t297 x26_1).f1)] 75 (0, 0)) (kB_ BK302.out) hg (Kd.R_ne HO_9.out BK302.out (by decide))); have n2_ := Aside0.mk (Kd.R_after (ok := (fun k_ => some k_ ≠ (.slice Ao29 y309.length co29 : Value).ownBlock ∧ some k_ ≠ (.slice Ao34 y315.length co34 : Value).ownBlock)) (by (with_reducible repeat (first | apply Kd.R_alloc | apply Kd.R_drewN | apply Kd.R_drew)); exact Kd.R_mono HO308.out (fun _ hk => ⟨⟨hk.1.2, hk.2⟩, hk.1.1⟩)) hg hat); have n3_ := Aside0.mk (Kd.R_after (ok := (fun k_ => some k_ ≠ (.slice Ao26 y306.length co26 : Value).ownBlock ∧ some k_ ≠ (.slice Ao34 y315.length co34 : Value).ownBlock)) (by (with_reducible repeat (first | apply Kd.R_alloc | apply Kd.R_drewN | apply Kd.R_drew)); exact Kd.R_mono HO311.out (fun _ hk => ⟨⟨hk.1.2, hk.2⟩, hk.1.1⟩)) hg hat); have n4_ := Aside0.mk (Kd.R_after (ok := (fun k_ => some k_ ≠ (.slice Ao26 y306.length co26 : Value).ownBlock ∧ some k_ ≠ (.slice Ao29 y309.length co29 : Value).ownBlock)) (by (with_reducible repeat (first | apply Kd.R_alloc | apply Kd.R_drewN | apply Kd.R_drew)); exact Kd.R_mono HO317.out (fun _ hk => ⟨⟨hk.1.2, hk.2⟩, hk.1.1.2⟩)) hg hat); have n5_ := Aside0.mk (hb); have n6_ := Aside0.mk (ho); clear HO_24; clear BK302; clear HO308; clear HO311; clear HO317; clear HB; clear HO_9; have HO_24 := n0_; have BK302 := n1_; have HO308 := n2_; have HO311 := n3_; have HO317 := n4_; have HB := n5_; have HO320 := n6_; clear n0_ n1_ n2_ n3_ n4_ n5_ n6_; clear ho hb hg hat))
          go_roundg k1
          case measure => have := HK1.out; omega
          case rel => exact ⟨(y318), (wrap64 (x26_1 + 1)), (by first | rfl | (simp; done) | (simp [*]; done)), H', ⟨by have := HK1.out; omega⟩, ⟨by (with_reducible repeat (first | apply Kd.R_alloc | apply Kd.R_drewN | apply Kd.R_drew)); exact Kd.R_mono HO320.out (fun _ hk => trivial)⟩, ⟨by (with_reducible repeat (first | apply Kd.R_alloc | apply Kd.R_drewN | apply Kd.R_drew)); exact Kd.R_mono HO_24.out (fun _ hk => trivial)⟩, ⟨by repeat (first | (with_reducible first | exact HB.out | apply below_alloc | apply pw_below_drewN | apply below_drew1 | refine below_set ?_ GE302.out) | exact HB.out)⟩⟩
         ·rw [if_neg c16] at H
          exact absurd H (by simp)
        ·replace c14 := Bool.eq_false_iff.mpr c14
         subst c14
         have H1 : ((impl_filesBelow.f k1 l0 ((rd_T75 t297 x26_1).f1) y309).bind fun t321 => (if x9_1.length + t321.length < 8796093022208 then (impl_filesBelow.l0 k1 l0 l2 (x9_1 ++ t321) t297 (t297.length : Int) (wrap64 (x26_1 + 1))) else (none))) = some r := by rw [if_neg (show ¬ (false = true) by decide)] at H; exact H
         clear H
         have H := H1
         clear H1
         replace H := Option.bind_eq_some_iff.mp H
         obtain ⟨t321, A350, H⟩ := H
         replace H : (if x9_1.length + t321.length < 8796093022208 then (impl_filesBelow.l0 k1 l0 l2 (x9_1 ++ t321) t297 (t297.length : Int) (wrap64 (x26_1 + 1))) else (none)) = some r := H
         have A35 := Aside0.mk A350
         clear A350
         by_cases c36 : x9_1.length + t321.length < 8796093022208
         ·rw [if_pos c36] at H
          have LMc36 := Aside0.mk c36
          clear c36
          obtain ⟨y324, hy324⟩ : ∃ y_ : List ByteArray, y_ = (x9_1 ++ t321) := ⟨_, rfl⟩
          replace H : (impl_filesBelow.l0 k1 l0 l2 y324 t297 (t297.length : Int) (wrap64 (x26_1 + 1))) = some r := by first | (rw [hy324]; with_reducible exact H) | (have H2_ := (Option.bind_some _ _).symm.trans H; rw [hy324]; with_reducible exact H2_) | (have H2_ := (Option.bind_some _ _).symm.trans H; with_reducible exact H2_) | with_reducible exact H | (rw [hy324]; exact H) | exact H
          have Ny324 := Aside0.mk hy324
          clear hy324
          have H' := Aside0.mk H
          clear H
          have p301 : 0 ≤ (x26_1 : Int) := of_decide_eq_true ma_
          have q301 : x26_1 < (t297.length : Int) := of_decide_eq_true ma_
          obtain ⟨ad301, e301, hx301_0, hx301_1⟩ := at_T75 (Kd.R_reads' HO_24.out).2.2 x26_1 p301 q301
          cases e301
          replace p301 := eq_true p301
          replace q301 := eq_true q301
          try go_wp2_with (first | ((with_reducible refine gate_dst (N := 11) rfl ?_); refine box_event ?hg (N := 11) ?hd (cs := #[.string (⟨#[]⟩ : ByteArray), .int .i64 0]) (t := 75) ?hr ?_; (case hd => rfl); (case hg => rfl); (case hr => first | (go_simp; done) | (go_simp; rfl)); intro gb302 hg w37 hbox hb; have n0_ := Aside0.mk (Kd.R_below (kR_ HO_9.out) hb); have n1_ := Aside0.mk (Kd.R_below (Kd.R_elderB (kR_ HO_24.out) gb302 (Nat.le_of_eq hg.symm)) hb); have n2_ := Aside0.mk (below_step hb_ hb); have n3_ := Aside0.mk (hbox); have n4_ := Aside0.mk ((by rw [hg]; exact (below_size hb_) : w.heap.size ≤ gb302)); have n5_ := Aside0.mk ((by rw [hg]; exact (below_size hb_) : w.heap.size ≤ gb302)); clear HO_9; clear HO_24; clear HB; have HO_9 := n0_; have HO_24 := n1_; have HB := n2_; have BK302 := n3_; have GW302 := n4_; have GE302 := n5_; clear n0_ n1_ n2_ n3_ n4_ n5_; clear hb hbox hg; have hcz38_0 : w37.cell? ⟨gb302, 0, none⟩ = some (.string (⟨#[]⟩ : ByteArray)) := (blk_cell BK302.out 0).trans rfl; have hcz38_1 : w37.cell? ⟨gb302, 1, none⟩ = some (.int .i64 0) := (blk_cell BK302.out 1).trans rfl; have hfz38_0 := blk_frozen BK302.out 0; have hfz38_1 := blk_frozen BK302.out 1))
          have n0_ : Aside0 (Kd.R Kd.string 9 ((w37.setCell ⟨gb302, 0, none⟩ (.string ((rd_T75 t297 x26_1).f0))).setCell ⟨gb302, 1, none⟩ (.int .i64 ((rd_T75 t297 x26_1).f1))) w.heap.size (fun _ => True) u9 x9_1) := ⟨by (with_reducible repeat (first | apply Kd.R_alloc | apply Kd.R_drewN | apply Kd.R_drew)); exact Kd.R_mono (Kd.R_far (p := ⟨gb302, 1, none⟩) (Kd.R_far (p := ⟨gb302, 0, none⟩) (Kd.R_types HO_9.out BK302.out (by decide)) (fun _ hk => hk.2) (.string ((rd_T75 t297 x26_1).f0))) (fun _ hk => hk.2) (.int .i64 ((rd_T75 t297 x26_1).f1))) (fun _ hk => trivial)⟩
          have n1_ : Aside0 (Kd.R k75 75 ((w37.setCell ⟨gb302, 0, none⟩ (.string ((rd_T75 t297 x26_1).f0))).setCell ⟨gb302, 1, none⟩ (.int .i64 ((rd_T75 t297 x26_1).f1))) w.heap.size (fun k_ => k_ ≠ gb302) (.slice (some ad301) t297.length co7) t297) := ⟨by (with_reducible repeat (first | apply Kd.R_alloc | apply Kd.R_drewN | apply Kd.R_drew)); exact Kd.R_mono (Kd.R_far (p := ⟨gb302, 1, none⟩) (Kd.R_far (p := ⟨gb302, 0, none⟩) (Kd.R_mono HO_24.out (fun k_ hk => (⟨hk, hk.2⟩ : _ ∧ k_ ≠ gb302))) (fun _ hk => hk.2) (.string ((rd_T75 t297 x26_1).f0))) (fun _ hk => hk.2) (.int .i64 ((rd_T75 t297 x26_1).f1))) (fun _ hk => hk.1.2)⟩
          have n2_ : Aside0 (((w37.setCell ⟨gb302, 0, none⟩ (.string ((rd_T75 t297 x26_1).f0))).setCell ⟨gb302, 1, none⟩ (.int .i64 ((rd_T75 t297 x26_1).f1))).heap[gb302]? = some (.cells #[.string ((rd_T75 t297 x26_1).f0), .int .i64 ((rd_T75 t297 x26_1).f1)] 75 (0, 0))) := ⟨by (with_reducible repeat (first | refine blk_drewN ?_ _ | refine blk_drew ?_ | refine blk_alloc ?_ _)); refine blk_put (cs := #[.string ((rd_T75 t297 x26_1).f0), .int .i64 0]) ?_ 1 _ rfl; (with_reducible repeat (first | refine blk_drewN ?_ _ | refine blk_drew ?_ | refine blk_alloc ?_ _)); refine blk_put (cs := #[.string (⟨#[]⟩ : ByteArray), .int .i64 0]) ?_ 0 _ rfl; (with_reducible repeat (first | refine blk_drewN ?_ _ | refine blk_drew ?_ | refine blk_alloc ?_ _)); exact BK302.out⟩
          have n3_ : Aside0 (Below w.heap.size w ((w37.setCell ⟨gb302, 0, none⟩ (.string ((rd_T75 t297 x26_1).f0))).setCell ⟨gb302, 1, none⟩ (.int .i64 ((rd_T75 t297 x26_1).f1)))) := ⟨by repeat (first | (with_reducible first | exact HB.out | apply below_alloc | apply pw_below_drewN | apply below_drew1 | refine below_set ?_ GE302.out) | exact HB.out)⟩
          (try clear HO_9)
          (try clear HO_24)
          (try clear BK302)
          (try clear HB)
          generalize ((w37.setCell ⟨gb302, 0, none⟩ (.string ((rd_T75 t297 x26_1).f0))).setCell ⟨gb302, 1, none⟩ (.int .i64 ((rd_T75 t297 x26_1).f1))) = w39 at n0_ n1_ n2_ n3_ ⊢
          have HO_9 := n0_
          have HO_24 := n1_
          have BK302 := n2_
          have HB := n3_
          clear n0_ n1_ n2_ n3_
          have n0_ := Aside0.mk (Kd.R_drew HO_9.out)
          have n1_ := Aside0.mk (Kd.R_drew HO_24.out)
          have n2_ := Aside0.mk (blk_drew BK302.out)
          have n3_ := Aside0.mk (below_drew1 HB.out)
          clear HO_9
          clear HO_24
          clear BK302
          clear HB
          have HO_9 := n0_
          have HO_24 := n1_
          have BK302 := n2_
          have HB := n3_
          clear n0_ n1_ n2_ n3_
          refine start_ (n := 7) (S := fun w' => w'.cell? ⟨gb302, 0, none⟩ = some (.string ((rd_T75 t297 x26_1).f0)) ∧ w'.cell? ⟨gb302, 1, none⟩ = some (.int .i64 ((rd_T75 t297 x26_1).f1))) (ds := []) (tf_ 0 7) (by kernel_rfl) rfl rfl ⟨(blk_cell BK302.out 0).trans rfl, (blk_cell BK302.out 1).trans rfl⟩ (fun hHeld => ?_)
          generalize w39.drew = w40 at HO_9 HO_24 BK302 HB hHeld ⊢
          refine pure_ (i := 0) (N := some 30) (v := ?_) (a' := ?_) (tf_ 1 6) rfl rfl (by kernel_rfl) (fun _ _ _ h => h) (Or.inl ⟨by rfl, ?_⟩) ?_ ?_
          rotate_left
          ·intro w'
           go_simp
           with_reducible rfl
          rotate_left
          ·simp only [Act.put, List.setIfInBounds_toArray, List.set_cons_zero, List.set_cons_succ, i64_w, i32_w]
           rfl
          refine pure_ (i := 2) (N := some 32) (v := ?_) (a' := ?_) #[true, false, true, false, false, false, false] rfl rfl (by kernel_rfl) (fun _ _ _ h => h) (Or.inl ⟨by rfl, ?_⟩) ?_ ?_
          rotate_left
          ·intro w'
           go_simp
           with_reducible rfl
          rotate_left
          ·simp only [Act.put, List.setIfInBounds_toArray, List.set_cons_zero, List.set_cons_succ, i64_w, i32_w]
           rfl
          refine take_ (i := 3) (N := some 33) (v := ?_) (a' := ?_) #[true, false, true, true, false, false, false] rfl rfl (by kernel_rfl) (fun _ _ _ h => h) (Or.inl ⟨by rfl, ?_⟩) hHeld ?_ ?_
          rotate_left
          ·rintro w' ⟨s0, s1⟩
           go_simp
           with_reducible rfl
          rotate_left
          ·simp only [Act.put, List.setIfInBounds_toArray, List.set_cons_zero, List.set_cons_succ, i64_w, i32_w]
           rfl
          refine join_ (σ := Value × Value) 2 (tf_ 5 2) (fun s_ => [(31, s_.1), (34, s_.2)]) (fun s_ w' => (w'.cell? ⟨gb302, 0, none⟩ = some (.string ((rd_T75 t297 x26_1).f0)) ∧ w'.cell? ⟨gb302, 1, none⟩ = some (.int .i64 ((rd_T75 t297 x26_1).f1))) ∧ (Kd.R Kd.string 9 w' w.heap.size (fun k_ => some k_ ≠ (s_.2 : Value).ownBlock ∧ some k_ ≠ (u9 : Value).ownBlock) s_.1 t303) ∧ (Kd.R Kd.string 9 w' w.heap.size (fun k_ => some k_ ≠ (s_.1 : Value).ownBlock ∧ some k_ ≠ (u9 : Value).ownBlock) s_.2 y306) ∧ (Kd.R k75 75 w' w.heap.size (fun k_ => k_ ≠ gb302) (.slice (some ad301) t297.length co7) t297) ∧ (Kd.R Kd.string 9 w' w.heap.size (fun k_ => some k_ ≠ (s_.1 : Value).ownBlock ∧ some k_ ≠ (s_.2 : Value).ownBlock) u9 x9_1) ∧ (w'.heap[gb302]? = some (.cells #[.string ((rd_T75 t297 x26_1).f0), .int .i64 ((rd_T75 t297 x26_1).f1)] 75 (0, 0))) ∧ (Below w.heap.size w w')) ?_ ?_
          rotate_left
          ·intro hCont
           refine two_ (i := 1) (j := 4) (Ni := some 31) (Nj := some 34) (tf_ 4 3) #[true, false, true, true, true, false, false] rfl rfl rfl rfl (by kernel_rfl) (by decide) (by decide) (fun K hK => ?_) (fun K hK => ?_)
           ·skip
            refine goes_ Tryz.func74 (by kernel_rfl) rfl #[.slice A2 l2.length c2] (by rfl) rfl rfl sl_ ?_
            with_reducible refine (slices_Clone_string.calls _ _ l2 t303 _ ?side1 ?side2 A11.out).mono ?_
            (case side1 => exact kC_ (Kd.C_below HR2.out HB.out))
            (case side2 => exact HC2.out)
            rintro e w41 ⟨v304, rfl, ho0, hb⟩
            refine ⟨_, rfl, ?_⟩
            have n0_ := Aside0.mk (Kd.R_elder' (kR_ HO_9.out) (Kd.R_base ho0) hb)
            have n1_ := Aside0.mk (Kd.R_below (kR_ HO_24.out) hb)
            have n2_ := Aside0.mk (Kd.R_lower (Kd.R_new' ho0 (Kd.R_lt (kR_ HO_9.out))) (below_size (by repeat (first | (with_reducible first | exact HB.out | apply below_alloc | apply pw_below_drewN | apply below_drew1 | refine below_set ?_ GE302.out) | exact HB.out))))
            have n3_ := Aside0.mk (blk_below (g := gb302) (o := .cells #[.string ((rd_T75 t297 x26_1).f0), .int .i64 ((rd_T75 t297 x26_1).f1)] 75 (0, 0)) (kB_ BK302.out) hb)
            have n4_ := Aside0.mk (below_step (by repeat (first | (with_reducible first | exact HB.out | apply below_alloc | apply pw_below_drewN | apply below_drew1 | refine below_set ?_ GE302.out) | exact HB.out)) hb)
            clear HO_9
            clear HO_24
            clear BK302
            clear HB
            have HO_9 := n0_
            have HO_24 := n1_
            have HO305 := n2_
            have BK302 := n3_
            have HB := n4_
            clear n0_ n1_ n2_ n3_ n4_
            (try clear hb)
            (try clear hb2)
            (try clear hk)
            (try clear hi)
            (try clear ho0)
            refine hK.out _ _ ⟨(blk_cell BK302.out 0).trans rfl, (blk_cell BK302.out 1).trans rfl⟩ (fun hHeld => ?_)
            clear hK K
            refine norm_ (a' := ?_) ?_ ?_
            rotate_left
            ·show Act.put _ (some 31) _ = _
             simp only [Act.put, List.setIfInBounds_toArray, List.set_cons_zero, List.set_cons_succ, i64_w, i32_w]
             rfl
            refine one_ (i := 4) (N := some 34) (tf_ 5 2) rfl rfl (by kernel_rfl) (by decide) (fun K hK => ?_)
            refine Kd.R_lit_step Kd.string _ 9 ?hg (N := 34) ?hd (xs := ([(rd_T75 t297 x26_1).f0] : List ByteArray)) (inner := [.string ((rd_T75 t297 x26_1).f0)]) (ok := fun _ => True) (okp := fun _ => True) ?hr ?hp (fun _ hk => hk) trivial (Below.refl _ _) (Nat.le_refl _) (by simp) ?_; (case hd => rfl); (case hg => rfl); (case hr => first | (go_simp; done) | (go_simp; rfl)); (case hp => exact (Reps.one (show Kd.M Kd.string _ _ _ ((rd_T75 t297 x26_1).f0) [.string ((rd_T75 t297 x26_1).f0)] from rfl) (Reps.none _ _)))
            intro v307 w42 ho43 hb hg_ hnew_
            clear hg_ hnew_
            (first | rw [← Ny306.out] at ho43 | (simp only [Int.reduceToNat] at ho43; rw [← Ny306.out] at ho43))
            have n0_ := Aside0.mk (Kd.R_elder' (kR_ HO_9.out) (Kd.R_base ho43) hb)
            have n1_ := Aside0.mk (Kd.R_below (kR_ HO_24.out) hb)
            have n2_ := Aside0.mk (Kd.R_elder' (kR_ HO305.out) (Kd.R_base ho43) hb)
            have n3_ := Aside0.mk (Kd.R_lower (Kd.R_new' (Kd.R_new' ho43 (Kd.R_lt (kR_ HO_9.out))) (Kd.R_lt (kR_ HO305.out))) (below_size (by repeat (first | (with_reducible first | exact HB.out | apply below_alloc | apply pw_below_drewN | apply below_drew1 | refine below_set ?_ GE302.out) | exact HB.out))))
            have n4_ := Aside0.mk (blk_below (g := gb302) (o := .cells #[.string ((rd_T75 t297 x26_1).f0), .int .i64 ((rd_T75 t297 x26_1).f1)] 75 (0, 0)) (kB_ BK302.out) hb)
            have n5_ := Aside0.mk (below_step (by repeat (first | (with_reducible first | exact HB.out | apply below_alloc | apply pw_below_drewN | apply below_drew1 | refine below_set ?_ GE302.out) | exact HB.out)) hb)
            clear HO_9
            clear HO_24
            clear HO305
            clear BK302
            clear HB
            have HO_9 := n0_
            have HO_24 := n1_
            have HO305 := n2_
            have HO308 := n3_
            have BK302 := n4_
            have HB := n5_
            clear n0_ n1_ n2_ n3_ n4_ n5_
            clear hb ho43
            refine hK.out _ _ ⟨(blk_cell BK302.out 0).trans rfl, (blk_cell BK302.out 1).trans rfl⟩ (fun hHeld => ?_)
            clear hK K
            refine norm_ (a' := ?_) ?_ ?_
            rotate_left
            ·show Act.put _ (some 34) _ = _
             simp only [Act.put, List.setIfInBounds_toArray, List.set_cons_zero, List.set_cons_succ, i64_w, i32_w]
             rfl
            exact norm_ (by simp only [putAll, Act.put, List.setIfInBounds_toArray, List.set_cons_zero, List.set_cons_succ]) (hCont (v304, v307) _ ⟨hHeld, (by (with_reducible repeat (first | apply Kd.R_alloc | apply Kd.R_drewN | apply Kd.R_drew)); exact Kd.R_mono HO305.out (fun _ hk => ⟨hk.2, hk.1.2⟩)), (by (with_reducible repeat (first | apply Kd.R_alloc | apply Kd.R_drewN | apply Kd.R_drew)); exact Kd.R_mono HO308.out (fun _ hk => ⟨hk.2, hk.1.2⟩)), (kR_ HO_24.out), (by (with_reducible repeat (first | apply Kd.R_alloc | apply Kd.R_drewN | apply Kd.R_drew)); exact Kd.R_mono HO_9.out (fun _ hk => ⟨hk.1.2, hk.2⟩)), (kB_ BK302.out), (by repeat (first | (with_reducible first | exact HB.out | apply below_alloc | apply pw_below_drewN | apply below_drew1 | refine below_set ?_ GE302.out) | exact HB.out))⟩)
           ·skip
            refine Kd.R_lit_step Kd.string _ 9 ?hg (N := 34) ?hd (xs := ([(rd_T75 t297 x26_1).f0] : List ByteArray)) (inner := [.string ((rd_T75 t297 x26_1).f0)]) (ok := fun _ => True) (okp := fun _ => True) ?hr ?hp (fun _ hk => hk) trivial (Below.refl _ _) (Nat.le_refl _) (by simp) ?_; (case hd => rfl); (case hg => rfl); (case hr => first | (go_simp; done) | (go_simp; rfl)); (case hp => exact (Reps.one (show Kd.M Kd.string _ _ _ ((rd_T75 t297 x26_1).f0) [.string ((rd_T75 t297 x26_1).f0)] from rfl) (Reps.none _ _)))
            intro v307 w41 ho42 hb hg_ hnew_
            clear hg_ hnew_
            (first | rw [← Ny306.out] at ho42 | (simp only [Int.reduceToNat] at ho42; rw [← Ny306.out] at ho42))
            have n0_ := Aside0.mk (Kd.R_elder' (kR_ HO_9.out) (Kd.R_base ho42) hb)
            have n1_ := Aside0.mk (Kd.R_below (kR_ HO_24.out) hb)
            have n2_ := Aside0.mk (Kd.R_lower (Kd.R_new' ho42 (Kd.R_lt (kR_ HO_9.out))) (below_size (by repeat (first | (with_reducible first | exact HB.out | apply below_alloc | apply pw_below_drewN | apply below_drew1 | refine below_set ?_ GE302.out) | exact HB.out))))
            have n3_ := Aside0.mk (blk_below (g := gb302) (o := .cells #[.string ((rd_T75 t297 x26_1).f0), .int .i64 ((rd_T75 t297 x26_1).f1)] 75 (0, 0)) (kB_ BK302.out) hb)
            have n4_ := Aside0.mk (below_step (by repeat (first | (with_reducible first | exact HB.out | apply below_alloc | apply pw_below_drewN | apply below_drew1 | refine below_set ?_ GE302.out) | exact HB.out)) hb)
            clear HO_9
            clear HO_24
            clear BK302
            clear HB
            have HO_9 := n0_
            have HO_24 := n1_
            have HO308 := n2_
            have BK302 := n3_
            have HB := n4_
            clear n0_ n1_ n2_ n3_ n4_
            clear hb ho42
            refine hK.out _ _ ⟨(blk_cell BK302.out 0).trans rfl, (blk_cell BK302.out 1).trans rfl⟩ (fun hHeld => ?_)
            clear hK K
            refine norm_ (a' := ?_) ?_ ?_
            rotate_left
            ·show Act.put _ (some 34) _ = _
             simp only [Act.put, List.setIfInBounds_toArray, List.set_cons_zero, List.set_cons_succ, i64_w, i32_w]
             rfl
            refine one_ (i := 1) (N := some 31) (tf_ 5 2) rfl rfl (by kernel_rfl) (by decide) (fun K hK => ?_)
            refine goes_ Tryz.func74 (by kernel_rfl) rfl #[.slice A2 l2.length c2] (by rfl) rfl rfl sl_ ?_
            with_reducible refine (slices_Clone_string.calls _ _ l2 t303 _ ?side1 ?side2 A11.out).mono ?_
            (case side1 => exact kC_ (Kd.C_below HR2.out HB.out))
            (case side2 => exact HC2.out)
            rintro e w43 ⟨v304, rfl, ho0, hb⟩
            refine ⟨_, rfl, ?_⟩
            have n0_ := Aside0.mk (Kd.R_elder' (kR_ HO_9.out) (Kd.R_base ho0) hb)
            have n1_ := Aside0.mk (Kd.R_below (kR_ HO_24.out) hb)
            have n2_ := Aside0.mk (Kd.R_elder' (kR_ HO308.out) (Kd.R_base ho0) hb)
            have n3_ := Aside0.mk (Kd.R_lower (Kd.R_new' (Kd.R_new' ho0 (Kd.R_lt (kR_ HO_9.out))) (Kd.R_lt (kR_ HO308.out))) (below_size (by repeat (first | (with_reducible first | exact HB.out | apply below_alloc | apply pw_below_drewN | apply below_drew1 | refine below_set ?_ GE302.out) | exact HB.out))))
            have n4_ := Aside0.mk (blk_below (g := gb302) (o := .cells #[.string ((rd_T75 t297 x26_1).f0), .int .i64 ((rd_T75 t297 x26_1).f1)] 75 (0, 0)) (kB_ BK302.out) hb)
            have n5_ := Aside0.mk (below_step (by repeat (first | (with_reducible first | exact HB.out | apply below_alloc | apply pw_below_drewN | apply below_drew1 | refine below_set ?_ GE302.out) | exact HB.out)) hb)
            clear HO_9
            clear HO_24
            clear HO308
            clear BK302
            clear HB
            have HO_9 := n0_
            have HO_24 := n1_
            have HO308 := n2_
            have HO305 := n3_
            have BK302 := n4_
            have HB := n5_
            clear n0_ n1_ n2_ n3_ n4_ n5_
            (try clear hb)
            (try clear hb2)
            (try clear hk)
            (try clear hi)
            (try clear ho0)
            refine hK.out _ _ ⟨(blk_cell BK302.out 0).trans rfl, (blk_cell BK302.out 1).trans rfl⟩ (fun hHeld => ?_)
            clear hK K
            refine norm_ (a' := ?_) ?_ ?_
            rotate_left
            ·show Act.put _ (some 31) _ = _
             simp only [Act.put, List.setIfInBounds_toArray, List.set_cons_zero, List.set_cons_succ, i64_w, i32_w]
             rfl
            exact norm_ (by simp only [putAll, Act.put, List.setIfInBounds_toArray, List.set_cons_zero, List.set_cons_succ]) (hCont (v304, v307) _ ⟨hHeld, (by (with_reducible repeat (first | apply Kd.R_alloc | apply Kd.R_drewN | apply Kd.R_drew)); exact Kd.R_mono HO305.out (fun _ hk => ⟨hk.2, hk.1.2⟩)), (by (with_reducible repeat (first | apply Kd.R_alloc | apply Kd.R_drewN | apply Kd.R_drew)); exact Kd.R_mono HO308.out (fun _ hk => ⟨hk.2, hk.1.2⟩)), (kR_ HO_24.out), (by (with_reducible repeat (first | apply Kd.R_alloc | apply Kd.R_drewN | apply Kd.R_drew)); exact Kd.R_mono HO_9.out (fun _ hk => ⟨hk.2, hk.1.2⟩)), (kB_ BK302.out), (by repeat (first | (with_reducible first | exact HB.out | apply below_alloc | apply pw_below_drewN | apply below_drew1 | refine below_set ?_ GE302.out) | exact HB.out))⟩)
          rintro ⟨v304, v307⟩ w44 ⟨hS_, h0_, h1_, h2_, h3_, h4_, h5_⟩
          have n0_ : Aside0 (Kd.R Kd.string 9 w44 w.heap.size (fun k_ => some k_ ≠ (v307 : Value).ownBlock ∧ some k_ ≠ (u9 : Value).ownBlock) v304 t303) := ⟨h0_⟩
          have n1_ : Aside0 (Kd.R Kd.string 9 w44 w.heap.size (fun k_ => some k_ ≠ (v304 : Value).ownBlock ∧ some k_ ≠ (u9 : Value).ownBlock) v307 y306) := ⟨h1_⟩
          have n2_ : Aside0 (Kd.R k75 75 w44 w.heap.size (fun k_ => k_ ≠ gb302) (.slice (some ad301) t297.length co7) t297) := ⟨h2_⟩
          have n3_ : Aside0 (Kd.R Kd.string 9 w44 w.heap.size (fun k_ => some k_ ≠ (v304 : Value).ownBlock ∧ some k_ ≠ (v307 : Value).ownBlock) u9 x9_1) := ⟨h3_⟩
          have n4_ : Aside0 (w44.heap[gb302]? = some (.cells #[.string ((rd_T75 t297 x26_1).f0), .int .i64 ((rd_T75 t297 x26_1).f1)] 75 (0, 0))) := ⟨h4_⟩
          have n5_ : Aside0 (Below w.heap.size w w44) := ⟨h5_⟩
          clear HO_9
          clear HO_24
          clear BK302
          clear HB
          clear h0_ h1_ h2_ h3_ h4_ h5_
          have HO305 := n0_
          have HO308 := n1_
          have HO_24 := n2_
          have HO_9 := n3_
          have BK302 := n4_
          have HB := n5_
          clear n0_ n1_ n2_ n3_ n4_ n5_
          have hHeld : w44.cell? ⟨gb302, 0, none⟩ = some (.string ((rd_T75 t297 x26_1).f0)) ∧ w44.cell? ⟨gb302, 1, none⟩ = some (.int .i64 ((rd_T75 t297 x26_1).f1)) := hS_
          obtain ⟨Ao46, co46, eo46⟩ := Kd.R_slice HO308.out
          (first | subst eo46 | (injection eo46 with f1_ f2_ f3_; have f4_ := f1_.symm; have f5_ := f3_.symm; clear f1_ f2_ f3_; subst f4_; subst f5_))
          refine norm_ (a' := ?_) ?_ ?_
          rotate_left
          ·simp only [putAll, Act.put, List.setIfInBounds_toArray, List.set_cons_zero, List.set_cons_succ]
           rfl
          refine one_ (i := 5) (N := some 35) (tf_ 6 1) rfl rfl (by kernel_rfl) (by decide) (fun K hK => ?_)
          refine Kd.R_append_rows_step Kd.string (w0 := w) w.heap.size (by rfl) (.tmp 31) (.tmp 34) 24 9 (.string ⟨#[]⟩) 16 rfl Tryz.underlying24 info9 rfl (by decide) (by omega) v304 t303 y306 _ _ _ (fun k_ => some k_ ≠ (u9 : Value).ownBlock ∧ some k_ ≠ (.slice Ao46 y306.length co46 : Value).ownBlock) (fun _ => False) rfl rfl ?aO ?aR (fun _ _ h => h) (fun _ h => h.elim) ?aF ?aB ?aS ?aL ?_
          (case aR => repeat (first | exact (Kd.R_reads' HO308.out).2.2 | (with_reducible refine Kd.C_alloc ?_ _) | (with_reducible refine Kd.C_drewN ?_ _) | (with_reducible refine Kd.C_drew ?_)))
          (case aB => exact (by repeat (first | (with_reducible first | exact HB.out | apply below_alloc | apply pw_below_drewN | apply below_drew1 | refine below_set ?_ GE302.out) | exact HB.out)))
          (case aF => exact (fun k_ hk => ⟨Kd.fresh' (Kd.R_lt (kR_ HO_9.out)) k_ hk, Kd.fresh' (Kd.R_lt (kR_ HO308.out)) k_ hk⟩))
          (case aO => exact (by (with_reducible repeat (first | apply Kd.R_alloc | apply Kd.R_drewN | apply Kd.R_drew)); exact Kd.R_mono HO305.out (fun _ hk => ⟨hk.2, hk.1⟩)))
          (case aS => exact (below_size (by repeat (first | (with_reducible first | exact HB.out | apply below_alloc | apply pw_below_drewN | apply below_drew1 | refine below_set ?_ GE302.out) | exact HB.out))))
          (case aL => have := LMc12.out; omega)
          intro v310 w45 ho hb hg hat
          rw [← Ny309.out] at ho
          have n0_ := Aside0.mk (Kd.R_after (ok := (fun k_ => some k_ ≠ (.slice Ao46 y306.length co46 : Value).ownBlock)) (by (with_reducible repeat (first | apply Kd.R_alloc | apply Kd.R_drewN | apply Kd.R_drew)); exact Kd.R_mono HO_9.out (fun _ hk => ⟨hk.2, hk.1⟩)) hg hat)
          have n1_ := Aside0.mk (Kd.R_over' (kR_ HO_24.out) (Kd.R_typed (kR_ HO305.out)) (by decide) hg)
          have n2_ := Aside0.mk (blk_grown (g := gb302) (o := .cells #[.string ((rd_T75 t297 x26_1).f0), .int .i64 ((rd_T75 t297 x26_1).f1)] 75 (0, 0)) (kB_ BK302.out) hg (Kd.R_ne HO305.out BK302.out (by decide)))
          have n3_ := Aside0.mk (Kd.R_after (ok := (fun k_ => some k_ ≠ (u9 : Value).ownBlock)) (by (with_reducible repeat (first | apply Kd.R_alloc | apply Kd.R_drewN | apply Kd.R_drew)); exact Kd.R_mono HO308.out (fun _ hk => ⟨hk.2, hk.1⟩)) hg hat)
          have n4_ := Aside0.mk (hb)
          have n5_ := Aside0.mk (ho)
          clear HO_9
          clear HO_24
          clear BK302
          clear HO308
          clear HB
          clear HO305
          have HO_9 := n0_
          have HO_24 := n1_
          have BK302 := n2_
          have HO308 := n3_
          have HB := n4_
          have HO311 := n5_
          clear n0_ n1_ n2_ n3_ n4_ n5_
          clear ho hb hg hat
          refine hK.out _ _ ⟨(blk_cell BK302.out 0).trans rfl, (blk_cell BK302.out 1).trans rfl⟩ (fun hHeld => ?_)
          clear hK K
          refine norm_ (a' := ?_) ?_ ?_
          rotate_left
          ·show Act.put _ (some 35) _ = _
           simp only [Act.put, List.setIfInBounds_toArray, List.set_cons_zero, List.set_cons_succ, i64_w, i32_w]
           rfl
          refine pure_ (i := 6) (N := some 12) (v := ?_) (a' := ?_) (tf_ 7 0) rfl rfl (by kernel_rfl) (fun _ _ _ h => h) (Or.inl ⟨by rfl, ?_⟩) ?_ ?_
          rotate_left
          ·intro w'
           go_simp
           with_reducible rfl
          rotate_left
          ·simp only [Act.put, List.setIfInBounds_toArray, List.set_cons_zero, List.set_cons_succ, i64_w, i32_w]
           rfl
          refine done_ (by kernel_rfl) ?_
          have hcz47_0 : w45.cell? ⟨gb302, 0, none⟩ = some (.string ((rd_T75 t297 x26_1).f0)) := (blk_cell BK302.out 0).trans rfl
          have hcz47_1 : w45.cell? ⟨gb302, 1, none⟩ = some (.int .i64 ((rd_T75 t297 x26_1).f1)) := (blk_cell BK302.out 1).trans rfl
          have hfz47_0 := blk_frozen BK302.out 0
          have hfz47_1 := blk_frozen BK302.out 1
          try go_wp2_with (first | ((with_reducible refine gate_callee (f := 72) rfl ?_); refine goesL_ (some 40) rfl rfl Tryz.func72 (by kernel_rfl) rfl #[.slice A0 l0.length c0, .int .i64 ((rd_T75 t297 x26_1).f1)] rfl sl_ ?_; (with_reducible refine (impl_fileOf.calls k1 _ _ l0 ((rd_T75 t297 x26_1).f1) t312 false _ ?side1 ?side2 A13.out).mono ?_); (case side1 => exact kC_ (Kd.C_below HR0.out HB.out)); (case side2 => exact HC0.out); rintro e w48 ⟨rfl, hb⟩; refine ⟨_, rfl, ?_⟩; replace HO_9 := Aside0.mk (Kd.R_below (kR_ HO_9.out) hb); replace HO_24 := Aside0.mk (Kd.R_below (kR_ HO_24.out) hb); replace HO308 := Aside0.mk (Kd.R_below (kR_ HO308.out) hb); replace HO311 := Aside0.mk (Kd.R_below (kR_ HO311.out) hb); replace BK302 := Aside0.mk (blk_below (g := gb302) (o := .cells #[.string ((rd_T75 t297 x26_1).f0), .int .i64 ((rd_T75 t297 x26_1).f1)] 75 (0, 0)) (kB_ BK302.out) hb); replace HB := Aside0.mk (below_step (by repeat (first | (with_reducible first | exact HB.out | apply below_alloc | apply pw_below_drewN | apply below_drew1 | refine below_set ?_ GE302.out) | exact HB.out)) hb); (try clear hb); (try clear hk); have hcz49_0 : w48.cell? ⟨gb302, 0, none⟩ = some (.string ((rd_T75 t297 x26_1).f0)) := (blk_cell BK302.out 0).trans rfl; have hcz49_1 : w48.cell? ⟨gb302, 1, none⟩ = some (.int .i64 ((rd_T75 t297 x26_1).f1)) := (blk_cell BK302.out 1).trans rfl; have hfz49_0 := blk_frozen BK302.out 0; have hfz49_1 := blk_frozen BK302.out 1; obtain ⟨Ao50, co50, eo50⟩ := Kd.R_slice HO311.out; subst eo50) | ((with_reducible refine gate_callee (f := 49) rfl ?_); refine goesL_ (some 54) rfl rfl Tryz.func49 (by kernel_rfl) rfl #[.slice A0 l0.length c0, .int .i64 ((rd_T75 t297 x26_1).f1), .slice Ao50 y309.length co50] rfl sl_ ?_; (with_reducible refine (ih k1 (by have := HK1.out; omega) _ _ l0 ((rd_T75 t297 x26_1).f1) _ _ y309 t321 _ ?side1 ?side2 ?side3 ?side4 (GT_on (by repeat (first | (with_reducible first | exact HB.out | apply below_alloc | apply pw_below_drewN | apply below_drew1 | refine below_set ?_ GE302.out) | exact HB.out)) hG) A35.out).mono ?_); (case side1 => exact kC_ (Kd.C_below HR0.out HB.out)); (case side2 => exact HC0.out); (case side3 => exact kC_ ((Kd.R_reads' HO311.out).2.2)); (case side4 => exact (Kd.R_reads' HO311.out).2.1); rintro e w51 ⟨v322, rfl, ho0, hb⟩; refine ⟨_, rfl, ?_⟩; replace HO_24 := Aside0.mk (Kd.R_below (kR_ HO_24.out) hb); have HO323 := Aside0.mk (Kd.R_lower (Kd.R_new' (Kd.R_new' (Kd.R_new' ho0 (Kd.R_lt (kR_ HO_9.out))) (Kd.R_lt (kR_ HO308.out))) (Kd.R_lt (kR_ HO311.out))) (below_size (by repeat (first | (with_reducible first | exact HB.out | apply below_alloc | apply pw_below_drewN | apply below_drew1 | refine below_set ?_ GE302.out) | exact HB.out)))); replace HO_9 := Aside0.mk (Kd.R_elder' (kR_ HO_9.out) (Kd.R_base ho0) hb); replace HO308 := Aside0.mk (Kd.R_elder' (kR_ HO308.out) (Kd.R_base ho0) hb); replace HO311 := Aside0.mk (Kd.R_elder' (kR_ HO311.out) (Kd.R_base ho0) hb); replace BK302 := Aside0.mk (blk_below (g := gb302) (o := .cells #[.string ((rd_T75 t297 x26_1).f0), .int .i64 ((rd_T75 t297 x26_1).f1)] 75 (0, 0)) (kB_ BK302.out) hb); replace HB := Aside0.mk (below_step (by repeat (first | (with_reducible first | exact HB.out | apply below_alloc | apply pw_below_drewN | apply below_drew1 | refine below_set ?_ GE302.out) | exact HB.out)) hb); (try clear hb); (try clear hk); (try clear ho0); obtain ⟨Ao53, co53, eo53⟩ := Kd.R_slice HO323.out; subst eo53) | ((with_reducible refine gate_builtin (b := .append) (xs := #[.tmp 49, .tmp 54]) rfl ?_); at_builtin; refine Kd.R_append_rows Kd.string (w0 := w) w.heap.size rfl (.tmp 49) (.tmp 54) 24 9 (.string ⟨#[]⟩) 16 rfl Tryz.underlying24 info9 rfl (by decide) (by omega) u9 x9_1 t321 _ _ _ (fun k_ => some k_ ≠ (.slice Ao46 y306.length co46 : Value).ownBlock ∧ some k_ ≠ (.slice Ao50 y309.length co50 : Value).ownBlock ∧ some k_ ≠ (.slice Ao53 t321.length co53 : Value).ownBlock) (fun _ => False) rfl rfl ?aO ?aR (fun _ _ h => h) (fun _ h => h.elim) ?aF ?aB ?aS ?aL ?_; (case aR => repeat (first | exact (Kd.R_reads' HO323.out).2.2 | (with_reducible refine Kd.C_alloc ?_ _) | (with_reducible refine Kd.C_drewN ?_ _) | (with_reducible refine Kd.C_drew ?_))); (case aB => exact (by repeat (first | (with_reducible first | exact HB.out | apply below_alloc | apply pw_below_drewN | apply below_drew1 | refine below_set ?_ GE302.out) | exact HB.out))); (case aF => exact (fun k_ hk => ⟨Kd.fresh' (Kd.R_lt (kR_ HO308.out)) k_ hk, Kd.fresh' (Kd.R_lt (kR_ HO311.out)) k_ hk, Kd.fresh' (Kd.R_lt (kR_ HO323.out)) k_ hk⟩)); (case aO => exact (by (with_reducible repeat (first | apply Kd.R_alloc | apply Kd.R_drewN | apply Kd.R_drew)); exact Kd.R_mono HO_9.out (fun _ hk => ⟨hk.1.1, ⟨hk.1.2, hk.2⟩⟩))); (case aS => exact (below_size (by repeat (first | (with_reducible first | exact HB.out | apply below_alloc | apply pw_below_drewN | apply below_drew1 | refine below_set ?_ GE302.out) | exact HB.out)))); (case aL => have := LMc36.out; omega); intro v325 w52 ho hb hg hat; rw [← Ny324.out] at ho; have n0_ := Aside0.mk (Kd.R_over' (kR_ HO_24.out) (Kd.R_typed (kR_ HO_9.out)) (by decide) hg); have n1_ := Aside0.mk (blk_grown (g := gb302) (o := .cells #[.string ((rd_T75 t297 x26_1).f0), .int .i64 ((rd_T75 t297 x26_1).f1)] 75 (0, 0)) (kB_ BK302.out) hg (Kd.R_ne HO_9.out BK302.out (by decide))); have n2_ := Aside0.mk (Kd.R_after (ok := (fun k_ => some k_ ≠ (.slice Ao50 y309.length co50 : Value).ownBlock ∧ some k_ ≠ (.slice Ao53 t321.length co53 : Value).ownBlock)) (by (with_reducible repeat (first | apply Kd.R_alloc | apply Kd.R_drewN | apply Kd.R_drew)); exact Kd.R_mono HO308.out (fun _ hk => ⟨⟨hk.1.2, hk.2⟩, hk.1.1⟩)) hg hat); have n3_ := Aside0.mk (Kd.R_after (ok := (fun k_ => some k_ ≠ (.slice Ao46 y306.length co46 : Value).ownBlock ∧ some k_ ≠ (.slice Ao53 t321.length co53 : Value).ownBlock)) (by (with_reducible repeat (first | apply Kd.R_alloc | apply Kd.R_drewN | apply Kd.R_drew)); exact Kd.R_mono HO311.out (fun _ hk => ⟨⟨hk.1.2, hk.2⟩, hk.1.1⟩)) hg hat); have n4_ := Aside0.mk (Kd.R_after (ok := (fun k_ => some k_ ≠ (.slice Ao46 y306.length co46 : Value).ownBlock ∧ some k_ ≠ (.slice Ao50 y309.length co50 : Value).ownBlock)) (by (with_reducible repeat (first | apply Kd.R_alloc | apply Kd.R_drewN | apply Kd.R_drew)); exact Kd.R_mono HO323.out (fun _ hk => ⟨⟨hk.1.2, hk.2⟩, hk.1.1.2⟩)) hg hat); have n5_ := Aside0.mk (hb); have n6_ := Aside0.mk (ho); clear HO_24; clear BK302; clear HO308; clear HO311; clear HO323; clear HB; clear HO_9; have HO_24 := n0_; have BK302 := n1_; have HO308 := n2_; have HO311 := n3_; have HO323 := n4_; have HB := n5_; have HO326 := n6_; clear n0_ n1_ n2_ n3_ n4_ n5_ n6_; clear ho hb hg hat))
          go_roundg k1
          case measure => have := HK1.out; omega
          case rel => exact ⟨(y324), (wrap64 (x26_1 + 1)), (by first | rfl | (simp; done) | (simp [*]; done)), H', ⟨by have := HK1.out; omega⟩, ⟨by (with_reducible repeat (first | apply Kd.R_alloc | apply Kd.R_drewN | apply Kd.R_drew)); exact Kd.R_mono HO326.out (fun _ hk => trivial)⟩, ⟨by (with_reducible repeat (first | apply Kd.R_alloc | apply Kd.R_drewN | apply Kd.R_drew)); exact Kd.R_mono HO_24.out (fun _ hk => trivial)⟩, ⟨by repeat (first | (with_reducible first | exact HB.out | apply below_alloc | apply pw_below_drewN | apply below_drew1 | refine below_set ?_ GE302.out) | exact HB.out)⟩⟩
         ·rw [if_neg c36] at H
          exact absurd H (by simp)
       ·rw [if_neg c12] at H
        exact absurd H (by simp)
      ·rw [if_neg c10] at H
       exact absurd H (by simp)
     ·rw [if_neg c9] at H
      exact absurd H (by simp)
    ·rw [if_neg c8] at H
     have c8b0 : decide (x26_1 < (t297.length : Int)) = false := decide_eq_false c8
     clear c8
     obtain rfl := Option.some.inj H
     go_wp2
     go_ret
     exact ⟨_, er_, by (with_reducible repeat (first | apply Kd.R_alloc | apply Kd.R_drewN | apply Kd.R_drew)); exact HO_9.out, hb_⟩
/-! ### impl_AllFiles: function 32 -/
def impl_AllFiles.f (k : Nat) (l0 : List (S46)) (a1 : Int) : Option (List ByteArray) := (impl_StoreValid.f k l0).bind fun t327 => (if t327 = true then ((impl_filesBelow.f k l0 a1 ([] : List ByteArray)).bind fun t328 => (some t328)) else (some ([] : List ByteArray)))
theorem impl_AllFiles.mono : ∀ a0 a1 k, LeO (impl_AllFiles.f k a0 a1) (impl_AllFiles.f (k + 1) a0 a1) := by
 intro a0 a1 k
 unfold impl_AllFiles.f
 repeat' first
   | (with_reducible exact impl_StoreValid.mono _ _)
   | (with_reducible exact impl_filesBelow.mono _ _ _ _)
   | (with_reducible exact LeO.refl _)
   | (with_reducible exact LeO.none _)
   | (with_reducible refine LeO.ite ?_ ?_)
   | (with_reducible refine LeO.bind ?_ (fun _ => ?_))
   | exact impl_StoreValid.mono _ _
   | exact impl_filesBelow.mono _ _ _ _
   | exact LeO.none _
   | refine LeO.ite ?_ ?_
   | refine LeO.bind ?_ (fun _ => ?_)
set_option maxHeartbeats 8000000 in
set_option maxRecDepth 100000 in
theorem impl_AllFiles.calls (k : Nat) (A0 : Option Addr) (c0 : Nat) (l0 : List (S46)) (a1 : Int) (r : List ByteArray) (w : World) (hr0 : Kd.C k46 w A0 l0.length l0) (hc0 : l0.length ≤ c0) (hG : GT w) (h : impl_AllFiles.f k l0 a1 = some r) :
  Calls Tryz.prog 32 #[.slice A0 l0.length c0, .int .i64 a1] w fun e w' => ∃ v0_ : Value, e = .returned (v0_) ∧ Kd.R Kd.string 9 w' w.heap.size (fun _ => True) v0_ r ∧ Below w.heap.size w w' := by
 have HR0 := Aside0.mk hr0
 have HC0 := Aside0.mk hc0
 clear hr0 hc0
 have HB := Aside0.mk (Below.refl w.heap.size w)
 have H : ((impl_StoreValid.f k l0).bind fun t327 => (if t327 = true then ((impl_filesBelow.f k l0 a1 ([] : List ByteArray)).bind fun t328 => (some t328)) else (some ([] : List ByteArray)))) = some r := h
 clear h
 replace H := Option.bind_eq_some_iff.mp H
 obtain ⟨t327, A30, H⟩ := H
 replace H : (if t327 = true then ((impl_filesBelow.f k l0 a1 ([] : List ByteArray)).bind fun t328 => (some t328)) else (some ([] : List ByteArray))) = some r := H
 have A3 := Aside0.mk A30
 clear A30
 by_cases c4 : t327 = true
 ·subst c4
  have H1 : ((impl_filesBelow.f k l0 a1 ([] : List ByteArray)).bind fun t328 => (some t328)) = some r := by rw [if_pos rfl] at H; exact H
  clear H
  have H := H1
  clear H1
  replace H := Option.bind_eq_some_iff.mp H
  obtain ⟨t328, A50, H⟩ := H
  replace H : (some t328) = some r := H
  have A5 := Aside0.mk A50
  clear A50
  obtain rfl := Option.some.inj H
  go_enter Tryz.func32, Tryz.ntmps32
  go_wp2_with (first | ((with_reducible refine gate_callee (f := 40) rfl ?_); refine goesL_ (some 6) rfl rfl Tryz.func40 (by kernel_rfl) rfl #[.slice A0 l0.length c0] rfl sl_ ?_; (with_reducible refine (impl_StoreValid.calls k _ _ l0 true _ ?side1 ?side2 A3.out).mono ?_); (case side1 => exact kC_ HR0.out); (case side2 => exact HC0.out); rintro e w6 ⟨rfl, hb⟩; refine ⟨_, rfl, ?_⟩; replace HB := Aside0.mk (below_step hb_ hb); (try clear hb)) | ((with_reducible refine gate_callee (f := 49) rfl ?_); refine goesL_ (some 10) rfl rfl Tryz.func49 (by kernel_rfl) rfl #[.slice A0 l0.length c0, .int .i64 a1, .slice none 0 0] rfl sl_ ?_; (refine (impl_filesBelow.calls k _ _ l0 a1 _ _ ([] : List ByteArray) t328 _ ?side1 ?side2 ?side3 ?side4 (GT_on hb_ hG) A5.out).mono ?_); (case side1 => exact kC_ (Kd.C_below HR0.out HB.out)); (case side2 => exact HC0.out); (case side3 => exact Kd.C_nil _ _); (case side4 => exact Nat.le_refl _); rintro e w7 ⟨v329, rfl, ho0, hb⟩; refine ⟨_, rfl, ?_⟩; have HO330 := Aside0.mk (Kd.R_lower ho0 (below_size hb_)); replace HB := Aside0.mk (below_step hb_ hb); (try clear hb); (try clear ho0)))
  go_ret
  exact ⟨_, er_, by (with_reducible repeat (first | apply Kd.R_alloc | apply Kd.R_drewN | apply Kd.R_drew)); exact HO330.out, hb_⟩
 ·replace c4 := Bool.eq_false_iff.mpr c4
  subst c4
  have H1 : (some ([] : List ByteArray)) = some r := by rw [if_neg (show ¬ (false = true) by decide)] at H; exact H
  clear H
  have H := H1
  clear H1
  obtain rfl := Option.some.inj H
  go_enter Tryz.func32, Tryz.ntmps32
  go_wp2_with (first | ((with_reducible refine gate_callee (f := 40) rfl ?_); refine goesL_ (some 6) rfl rfl Tryz.func40 (by kernel_rfl) rfl #[.slice A0 l0.length c0] rfl sl_ ?_; (with_reducible refine (impl_StoreValid.calls k _ _ l0 false _ ?side1 ?side2 A3.out).mono ?_); (case side1 => exact kC_ HR0.out); (case side2 => exact HC0.out); rintro e w8 ⟨rfl, hb⟩; refine ⟨_, rfl, ?_⟩; replace HB := Aside0.mk (below_step hb_ hb); (try clear hb)))
  go_ret
  exact ⟨_, er_, by first | exact Kd.R_nil _ _ _ _ _ | exact Kd.N_nil _ _ _ _ _ | exact Kd.V_nil _ _ _ _ _ | exact Kd.Q_nil _ _ _ _ _ | exact Kd.S_nil _ _ _ _ _, hb_⟩
end Go.Proofs.YtjgbidklkhohfaaGreatDoor.P
