-- The functions of the seat as plain Lean functions, made by the kit's print.py for all laws at once. Not trusted: Lean checks it.
import Derived.Test.YtjgbidklkhohfaaDoorPx0
import Derived.Test.YtjgbidklkhohfaaDoorPx3
import Derived.Test.YtjgbidklkhohfaaDoorPx7
import Derived.Test.YtjgbidklkhohfaaDoorPx12
namespace Go.Proofs.YtjgbidklkhohfaaDoor.P
open Go.RowKit Go.Proofs.YtjgbidklkhohfaaDoorW.PrintWords Go.Proofs.YtjgbidklkhohfaaDoorW.PrintLast Go.Proofs.YtjgbidklkhohfaaDoorW.PrintMore
attribute [local go_sem] max2_int min2_int max_two min_two max_three min_three max_four min_four   -- for this text's walks alone
set_option linter.unusedVariables false
set_option linter.unusedSimpArgs false
/-! ### impl_filesBelow: function 62 -/
mutual
def impl_filesBelow.l0 : Nat → List (S58) → List ByteArray → List ByteArray → List (S63) → Int → Int → Option (List ByteArray)
 | 0, _, _, _, _, _, _ => none
 | k + 1, x0, x2, x9, x24, x25, x26 => if x26 < x25 then (if 0 ≤ x26 then (if x26 < (x24.length : Int) then ((slices_Clone_string.f x2).bind fun t846 => ((some (([(rd_T63 x24 x26).f0] : List ByteArray) : List ByteArray)).bind fun y849 => (if t846.length + y849.length < 8796093022208 then ((some (t846 ++ y849 : List ByteArray)).bind fun y852 => ((impl_fileOf.f k x0 ((rd_T63 x24 x26).f1)).bind fun bt855 => (if bt855.2 = true then ((impl_JoinPath.f k y852).bind fun t857 => ((some (([t857] : List ByteArray) : List ByteArray)).bind fun y858 => (if x9.length + y858.length < 8796093022208 then (impl_filesBelow.l0 k x0 x2 (x9 ++ y858) x24 x25 (wrap64 (x26 + 1))) else (none)))) else ((impl_filesBelow.f k x0 ((rd_T63 x24 x26).f1) y852).bind fun t864 => (if x9.length + t864.length < 8796093022208 then (impl_filesBelow.l0 k x0 x2 (x9 ++ t864) x24 x25 (wrap64 (x26 + 1))) else (none)))))) else (none)))) else (none)) else (none)) else (some x9)
def impl_filesBelow.f : Nat → List (S58) → Int → List ByteArray → Option (List ByteArray)
 | 0, _, _, _ => none
 | k + 1, l0, a1, l2 => if (l2.length : Int) = 3 then (some ([] : List ByteArray)) else ((impl_folderOf.f k l0 a1).bind fun bt840 => (impl_filesBelow.l0 k l0 l2 ([] : List ByteArray) bt840.1 (bt840.1.length : Int) 0))
end
theorem impl_filesBelow.mono_l : ∀ k, (∀ y0 y1 y2, LeO (impl_filesBelow.f k y0 y1 y2) (impl_filesBelow.f (k + 1) y0 y1 y2)) ∧ (∀ y0 y1 y2 y3 y4 y5, LeO (impl_filesBelow.l0 k y0 y1 y2 y3 y4 y5) (impl_filesBelow.l0 (k + 1) y0 y1 y2 y3 y4 y5))
 | 0 => ⟨fun _ _ _ r h => by simp [impl_filesBelow.f] at h, fun _ _ _ _ _ _ r h => by simp [impl_filesBelow.l0] at h⟩
 | k + 1 => by
  obtain ⟨ih0, ih1⟩ := impl_filesBelow.mono_l k
  refine ⟨?_, ?_⟩
  ·intro y0 y1 y2
   unfold impl_filesBelow.f
   repeat' first
   | (with_reducible exact ih0 _ _ _)
   | (with_reducible exact ih1 _ _ _ _ _ _)
   | (with_reducible exact impl_JoinPath.mono _ _)
   | (with_reducible exact impl_fileOf.mono _ _ _)
   | (with_reducible exact impl_folderOf.mono _ _ _)
   | (with_reducible exact LeO.refl _)
   | (with_reducible exact LeO.none _)
   | (with_reducible refine LeO.ite ?_ ?_)
   | (with_reducible refine LeO.bind ?_ (fun _ => ?_))
   | exact ih0 _ _ _
   | exact ih1 _ _ _ _ _ _
   | exact impl_JoinPath.mono _ _
   | exact impl_fileOf.mono _ _ _
   | exact impl_folderOf.mono _ _ _
   | exact LeO.none _
   | refine LeO.ite ?_ ?_
   | refine LeO.bind ?_ (fun _ => ?_)
  ·intro y0 y1 y2 y3 y4 y5
   unfold impl_filesBelow.l0
   repeat' first
   | (with_reducible exact ih0 _ _ _)
   | (with_reducible exact ih1 _ _ _ _ _ _)
   | (with_reducible exact impl_JoinPath.mono _ _)
   | (with_reducible exact impl_fileOf.mono _ _ _)
   | (with_reducible exact impl_folderOf.mono _ _ _)
   | (with_reducible exact LeO.refl _)
   | (with_reducible exact LeO.none _)
   | (with_reducible refine LeO.ite ?_ ?_)
   | (with_reducible refine LeO.bind ?_ (fun _ => ?_))
   | exact ih0 _ _ _
   | exact ih1 _ _ _ _ _ _
   | exact impl_JoinPath.mono _ _
   | exact impl_fileOf.mono _ _ _
   | exact impl_folderOf.mono _ _ _
   | exact LeO.none _
   | refine LeO.ite ?_ ?_
   | refine LeO.bind ?_ (fun _ => ?_)
theorem impl_filesBelow.mono : ∀ a0 a1 a2 k, LeO (impl_filesBelow.f k a0 a1 a2) (impl_filesBelow.f (k + 1) a0 a1 a2) := by
 intro a0 a1 a2 k
 obtain ⟨ih0, ih1⟩ := impl_filesBelow.mono_l k
 exact ih0 a0 a1 a2
set_option maxHeartbeats 8000000 in
set_option maxRecDepth 100000 in
theorem impl_filesBelow.calls (k : Nat) : ∀ (A0 : Option Addr) (c0 : Nat) (l0 : List (S58)) (a1 : Int) (A2 : Option Addr) (c2 : Nat) (l2 : List ByteArray) (r : List ByteArray) (w : World) (hr0 : Kd.C k58 w A0 l0.length l0) (hc0 : l0.length ≤ c0) (hr2 : Kd.C Kd.string w A2 l2.length l2) (hc2 : l2.length ≤ c2) (hG : GT w) (h : impl_filesBelow.f k l0 a1 l2 = some r),
  Calls Tryd.prog 62 #[.slice A0 l0.length c0, .int .i64 a1, .slice A2 l2.length c2] w fun e w' => ∃ v0_ : Value, e = .returned (v0_) ∧ Kd.R Kd.string 9 w' w.heap.size (fun _ => True) v0_ r ∧ Below w.heap.size w w' := by
 induction k using Nat.strongRecOn with
 | _ k ih =>
 intro A0 c0 l0 a1 A2 c2 l2 r w hr0 hc0 hr2 hc2 hG h
 cases k with
 | zero => exact absurd h (by simp [impl_filesBelow.f])
 | succ k =>
 simp only [impl_filesBelow.f] at h
 have hu63 := Tryd.underlying63
 have HR0 := Aside0.mk hr0
 have HC0 := Aside0.mk hc0
 clear hr0 hc0
 have HR2 := Aside0.mk hr2
 have HC2 := Aside0.mk hc2
 clear hr2 hc2
 have HB := Aside0.mk (Below.refl w.heap.size w)
 have H : (if (l2.length : Int) = 3 then (some ([] : List ByteArray)) else ((impl_folderOf.f k l0 a1).bind fun bt840 => (impl_filesBelow.l0 k l0 l2 ([] : List ByteArray) bt840.1 (bt840.1.length : Int) 0))) = some r := h
 clear h
 by_cases c4 : (l2.length : Int) = 3
 ·rw [if_pos c4] at H
  have c4b0 : ((l2.length : Int) == 3) = true := beq_iff_eq.mpr c4
  have c4b1 : ((l2.length : Int) != 3) = false := bne_eq_false_iff_eq.mpr c4
  clear c4
  obtain rfl := Option.some.inj H
  go_enter Tryd.func62, Tryd.ntmps62
  go_wp2
  go_ret
  exact ⟨_, er_, by first | exact Kd.R_nil _ _ _ _ _ | exact Kd.N_nil _ _ _ _ _ | exact Kd.V_nil _ _ _ _ _ | exact Kd.Q_nil _ _ _ _ _ | exact Kd.S_nil _ _ _ _ _, hb_⟩
 ·rw [if_neg c4] at H
  have c4b0 : ((l2.length : Int) == 3) = false := beq_eq_false_iff_ne.mpr c4
  have c4b1 : ((l2.length : Int) != 3) = true := bne_iff_ne.mpr c4
  replace H := Option.bind_eq_some_iff.mp H
  obtain ⟨⟨t840, t841⟩, A50, H⟩ := H
  replace H : (impl_filesBelow.l0 k l0 l2 ([] : List ByteArray) t840 (t840.length : Int) 0) = some r := H
  have A5 := Aside0.mk A50
  clear A50
  have H' := Aside0.mk H
  clear H
  go_enter Tryd.func62, Tryd.ntmps62
  go_wp2_with (first | ((with_reducible refine gate_callee (f := 89) rfl ?_); refine goesL_ (some 21) rfl rfl Tryd.func89 (by kernel_rfl) rfl #[.slice A0 l0.length c0, .int .i64 a1] rfl sl_ ?_; (with_reducible refine (impl_folderOf.calls k _ _ l0 a1 t840 t841 _ ?side1 ?side2 (GT_on hb_ hG) A5.out).mono ?_); (case side1 => exact kC_ HR0.out); (case side2 => exact HC0.out); rintro e w6 ⟨v842, rfl, ho0, hb⟩; refine ⟨_, rfl, ?_⟩; have HO843 := Aside0.mk (Kd.R_lower ho0 (below_size hb_)); replace HB := Aside0.mk (below_step hb_ hb); (try clear hb); (try clear ho0); obtain ⟨Ao7, co7, eo7⟩ := Kd.R_slice HO843.out; subst eo7))
  go_loopg [9, 26] k (fun kq v9 v26 w' => ∃ (x9_1 : List ByteArray) (x26_1 : Int), v26 = .int .i64 x26_1 ∧ Aside0 (impl_filesBelow.l0 kq l0 l2 x9_1 t840 (t840.length : Int) x26_1 = some r) ∧ Aside0 (kq ≤ k) ∧ Aside0 (Kd.R Kd.string 9 w' w.heap.size (fun _ => True) v9 x9_1) ∧ Aside0 (Kd.R k63 63 w' w.heap.size (fun _ => True) (.slice Ao7 t840.length co7) t840) ∧ Aside0 (Below w.heap.size w w'))
  case atStart => exact ⟨(([] : List ByteArray)), (0), (by first | rfl | (simp; done) | (simp [*]; done)), H', ⟨Nat.le_refl _⟩, ⟨by first | exact Kd.R_nil _ _ _ _ _ | exact Kd.N_nil _ _ _ _ _ | exact Kd.V_nil _ _ _ _ _ | exact Kd.Q_nil _ _ _ _ _ | exact Kd.S_nil _ _ _ _ _⟩, ⟨by (with_reducible repeat (first | apply Kd.R_alloc | apply Kd.R_drewN | apply Kd.R_drew)); exact HO843.out⟩, ⟨hb_⟩⟩
  case round =>
   clear H'
   try clear c2
   try clear p2
   try clear c4
   try clear c4b0
   try clear c4b1
   try clear c6
   obtain ⟨x9_1, x26_1, rfl, HA, HK1, HO_9, HO_24, HB⟩ := hrel
   cases gk with
   | zero => exact absurd HA.out (by simp [impl_filesBelow.l0])
   | succ k1 =>
    have H := HA.out
    clear HA
    simp only [impl_filesBelow.l0] at H
    by_cases c8 : x26_1 < (t840.length : Int)
    ·rw [if_pos c8] at H
     have c8b0 : decide (x26_1 < (t840.length : Int)) = true := decide_eq_true c8
     clear c8
     by_cases c9 : 0 ≤ x26_1
     ·rw [if_pos c9] at H
      have c9b0 : decide (0 ≤ x26_1) = true := decide_eq_true c9
      clear c9
      by_cases c10 : x26_1 < (t840.length : Int)
      ·rw [if_pos c10] at H
       have c10b0 : decide (x26_1 < (t840.length : Int)) = true := decide_eq_true c10
       clear c10
       replace H := Option.bind_eq_some_iff.mp H
       obtain ⟨t846, A110, H⟩ := H
       replace H : ((some (([(rd_T63 t840 x26_1).f0] : List ByteArray) : List ByteArray)).bind fun y849 => (if t846.length + y849.length < 8796093022208 then ((some (t846 ++ y849 : List ByteArray)).bind fun y852 => ((impl_fileOf.f k1 l0 ((rd_T63 t840 x26_1).f1)).bind fun bt855 => (if bt855.2 = true then ((impl_JoinPath.f k1 y852).bind fun t857 => ((some (([t857] : List ByteArray) : List ByteArray)).bind fun y858 => (if x9_1.length + y858.length < 8796093022208 then (impl_filesBelow.l0 k1 l0 l2 (x9_1 ++ y858) t840 (t840.length : Int) (wrap64 (x26_1 + 1))) else (none)))) else ((impl_filesBelow.f k1 l0 ((rd_T63 t840 x26_1).f1) y852).bind fun t864 => (if x9_1.length + t864.length < 8796093022208 then (impl_filesBelow.l0 k1 l0 l2 (x9_1 ++ t864) t840 (t840.length : Int) (wrap64 (x26_1 + 1))) else (none)))))) else (none))) = some r := H
       have A11 := Aside0.mk A110
       clear A110
       obtain ⟨y849, hy849⟩ : ∃ y_ : List ByteArray, y_ = (([(rd_T63 t840 x26_1).f0] : List ByteArray)) := ⟨_, rfl⟩
       replace H : (if t846.length + y849.length < 8796093022208 then ((some (t846 ++ y849 : List ByteArray)).bind fun y852 => ((impl_fileOf.f k1 l0 ((rd_T63 t840 x26_1).f1)).bind fun bt855 => (if bt855.2 = true then ((impl_JoinPath.f k1 y852).bind fun t857 => ((some (([t857] : List ByteArray) : List ByteArray)).bind fun y858 => (if x9_1.length + y858.length < 8796093022208 then (impl_filesBelow.l0 k1 l0 l2 (x9_1 ++ y858) t840 (t840.length : Int) (wrap64 (x26_1 + 1))) else (none)))) else ((impl_filesBelow.f k1 l0 ((rd_T63 t840 x26_1).f1) y852).bind fun t864 => (if x9_1.length + t864.length < 8796093022208 then (impl_filesBelow.l0 k1 l0 l2 (x9_1 ++ t864) t840 (t840.length : Int) (wrap64 (x26_1 + 1))) else (none)))))) else (none)) = some r := by first | (rw [hy849]; with_reducible exact H) | (have H2_ := (Option.bind_some _ _).symm.trans H; rw [hy849]; with_reducible exact H2_) | (have H2_ := (Option.bind_some _ _).symm.trans H; with_reducible exact H2_) | with_reducible exact H | (rw [hy849]; exact H) | exact H
       have Ny849 := Aside0.mk hy849
       clear hy849
       by_cases c12 : t846.length + y849.length < 8796093022208
       ·rw [if_pos c12] at H
        have LMc12 := Aside0.mk c12
        clear c12
        obtain ⟨y852, hy852⟩ : ∃ y_ : List ByteArray, y_ = (t846 ++ y849) := ⟨_, rfl⟩
        replace H : ((impl_fileOf.f k1 l0 ((rd_T63 t840 x26_1).f1)).bind fun bt855 => (if bt855.2 = true then ((impl_JoinPath.f k1 y852).bind fun t857 => ((some (([t857] : List ByteArray) : List ByteArray)).bind fun y858 => (if x9_1.length + y858.length < 8796093022208 then (impl_filesBelow.l0 k1 l0 l2 (x9_1 ++ y858) t840 (t840.length : Int) (wrap64 (x26_1 + 1))) else (none)))) else ((impl_filesBelow.f k1 l0 ((rd_T63 t840 x26_1).f1) y852).bind fun t864 => (if x9_1.length + t864.length < 8796093022208 then (impl_filesBelow.l0 k1 l0 l2 (x9_1 ++ t864) t840 (t840.length : Int) (wrap64 (x26_1 + 1))) else (none))))) = some r := by first | (rw [hy852]; with_reducible exact H) | (have H2_ := (Option.bind_some _ _).symm.trans H; rw [hy852]; with_reducible exact H2_) | (have H2_ := (Option.bind_some _ _).symm.trans H; with_reducible exact H2_) | with_reducible exact H | (rw [hy852]; exact H) | exact H
        have Ny852 := Aside0.mk hy852
        clear hy852
        replace H := Option.bind_eq_some_iff.mp H
        obtain ⟨⟨t855, t856⟩, A130, H⟩ := H
        replace H : (if t856 = true then ((impl_JoinPath.f k1 y852).bind fun t857 => ((some (([t857] : List ByteArray) : List ByteArray)).bind fun y858 => (if x9_1.length + y858.length < 8796093022208 then (impl_filesBelow.l0 k1 l0 l2 (x9_1 ++ y858) t840 (t840.length : Int) (wrap64 (x26_1 + 1))) else (none)))) else ((impl_filesBelow.f k1 l0 ((rd_T63 t840 x26_1).f1) y852).bind fun t864 => (if x9_1.length + t864.length < 8796093022208 then (impl_filesBelow.l0 k1 l0 l2 (x9_1 ++ t864) t840 (t840.length : Int) (wrap64 (x26_1 + 1))) else (none)))) = some r := H
        have A13 := Aside0.mk A130
        clear A130
        by_cases c14 : t856 = true
        ·subst c14
         have H1 : ((impl_JoinPath.f k1 y852).bind fun t857 => ((some (([t857] : List ByteArray) : List ByteArray)).bind fun y858 => (if x9_1.length + y858.length < 8796093022208 then (impl_filesBelow.l0 k1 l0 l2 (x9_1 ++ y858) t840 (t840.length : Int) (wrap64 (x26_1 + 1))) else (none)))) = some r := by rw [if_pos rfl] at H; exact H
         clear H
         have H := H1
         clear H1
         replace H := Option.bind_eq_some_iff.mp H
         obtain ⟨t857, A150, H⟩ := H
         replace H : ((some (([t857] : List ByteArray) : List ByteArray)).bind fun y858 => (if x9_1.length + y858.length < 8796093022208 then (impl_filesBelow.l0 k1 l0 l2 (x9_1 ++ y858) t840 (t840.length : Int) (wrap64 (x26_1 + 1))) else (none))) = some r := H
         have A15 := Aside0.mk A150
         clear A150
         obtain ⟨y858, hy858⟩ : ∃ y_ : List ByteArray, y_ = (([t857] : List ByteArray)) := ⟨_, rfl⟩
         replace H : (if x9_1.length + y858.length < 8796093022208 then (impl_filesBelow.l0 k1 l0 l2 (x9_1 ++ y858) t840 (t840.length : Int) (wrap64 (x26_1 + 1))) else (none)) = some r := by first | (rw [hy858]; with_reducible exact H) | (have H2_ := (Option.bind_some _ _).symm.trans H; rw [hy858]; with_reducible exact H2_) | (have H2_ := (Option.bind_some _ _).symm.trans H; with_reducible exact H2_) | with_reducible exact H | (rw [hy858]; exact H) | exact H
         have Ny858 := Aside0.mk hy858
         clear hy858
         by_cases c16 : x9_1.length + y858.length < 8796093022208
         ·rw [if_pos c16] at H
          have LMc16 := Aside0.mk c16
          clear c16
          obtain ⟨y861, hy861⟩ : ∃ y_ : List ByteArray, y_ = (x9_1 ++ y858) := ⟨_, rfl⟩
          replace H : (impl_filesBelow.l0 k1 l0 l2 y861 t840 (t840.length : Int) (wrap64 (x26_1 + 1))) = some r := by first | (rw [hy861]; with_reducible exact H) | (have H2_ := (Option.bind_some _ _).symm.trans H; rw [hy861]; with_reducible exact H2_) | (have H2_ := (Option.bind_some _ _).symm.trans H; with_reducible exact H2_) | with_reducible exact H | (rw [hy861]; exact H) | exact H
          have Ny861 := Aside0.mk hy861
          clear hy861
          have H' := Aside0.mk H
          clear H
          have p844 : 0 ≤ (x26_1 : Int) := of_decide_eq_true ma_
          have q844 : x26_1 < (t840.length : Int) := of_decide_eq_true ma_
          obtain ⟨ad844, e844, hx844_0, hx844_1⟩ := at_T63 (Kd.R_reads' HO_24.out).2.2 x26_1 p844 q844
          cases e844
          replace p844 := eq_true p844
          replace q844 := eq_true q844
          try go_wp2_with (first | ((with_reducible refine gate_dst (N := 11) rfl ?_); refine box_event ?hg (N := 11) ?hd (cs := #[.string (⟨#[]⟩ : ByteArray), .int .i64 0]) (t := 63) ?hr ?_; (case hd => rfl); (case hg => rfl); (case hr => first | (go_simp; done) | (go_simp; rfl)); intro gb845 hg w17 hbox hb; have n0_ := Aside0.mk (Kd.R_below (kR_ HO_9.out) hb); have n1_ := Aside0.mk (Kd.R_below (Kd.R_elderB (kR_ HO_24.out) gb845 (Nat.le_of_eq hg.symm)) hb); have n2_ := Aside0.mk (below_step hb_ hb); have n3_ := Aside0.mk (hbox); have n4_ := Aside0.mk ((by rw [hg]; exact (below_size hb_) : w.heap.size ≤ gb845)); have n5_ := Aside0.mk ((by rw [hg]; exact (below_size hb_) : w.heap.size ≤ gb845)); clear HO_9; clear HO_24; clear HB; have HO_9 := n0_; have HO_24 := n1_; have HB := n2_; have BK845 := n3_; have GW845 := n4_; have GE845 := n5_; clear n0_ n1_ n2_ n3_ n4_ n5_; clear hb hbox hg; have hcz18_0 : w17.cell? ⟨gb845, 0, none⟩ = some (.string (⟨#[]⟩ : ByteArray)) := (blk_cell BK845.out 0).trans rfl; have hcz18_1 : w17.cell? ⟨gb845, 1, none⟩ = some (.int .i64 0) := (blk_cell BK845.out 1).trans rfl; have hfz18_0 := blk_frozen BK845.out 0; have hfz18_1 := blk_frozen BK845.out 1))
          have n0_ : Aside0 (Kd.R Kd.string 9 ((w17.setCell ⟨gb845, 0, none⟩ (.string ((rd_T63 t840 x26_1).f0))).setCell ⟨gb845, 1, none⟩ (.int .i64 ((rd_T63 t840 x26_1).f1))) w.heap.size (fun _ => True) u9 x9_1) := ⟨by (with_reducible repeat (first | apply Kd.R_alloc | apply Kd.R_drewN | apply Kd.R_drew)); exact Kd.R_mono (Kd.R_far (p := ⟨gb845, 1, none⟩) (Kd.R_far (p := ⟨gb845, 0, none⟩) (Kd.R_types HO_9.out BK845.out (by decide)) (fun _ hk => hk.2) (.string ((rd_T63 t840 x26_1).f0))) (fun _ hk => hk.2) (.int .i64 ((rd_T63 t840 x26_1).f1))) (fun _ hk => trivial)⟩
          have n1_ : Aside0 (Kd.R k63 63 ((w17.setCell ⟨gb845, 0, none⟩ (.string ((rd_T63 t840 x26_1).f0))).setCell ⟨gb845, 1, none⟩ (.int .i64 ((rd_T63 t840 x26_1).f1))) w.heap.size (fun k_ => k_ ≠ gb845) (.slice (some ad844) t840.length co7) t840) := ⟨by (with_reducible repeat (first | apply Kd.R_alloc | apply Kd.R_drewN | apply Kd.R_drew)); exact Kd.R_mono (Kd.R_far (p := ⟨gb845, 1, none⟩) (Kd.R_far (p := ⟨gb845, 0, none⟩) (Kd.R_mono HO_24.out (fun k_ hk => (⟨hk, hk.2⟩ : _ ∧ k_ ≠ gb845))) (fun _ hk => hk.2) (.string ((rd_T63 t840 x26_1).f0))) (fun _ hk => hk.2) (.int .i64 ((rd_T63 t840 x26_1).f1))) (fun _ hk => hk.1.2)⟩
          have n2_ : Aside0 (((w17.setCell ⟨gb845, 0, none⟩ (.string ((rd_T63 t840 x26_1).f0))).setCell ⟨gb845, 1, none⟩ (.int .i64 ((rd_T63 t840 x26_1).f1))).heap[gb845]? = some (.cells #[.string ((rd_T63 t840 x26_1).f0), .int .i64 ((rd_T63 t840 x26_1).f1)] 63 (0, 0))) := ⟨by (with_reducible repeat (first | refine blk_drewN ?_ _ | refine blk_drew ?_ | refine blk_alloc ?_ _)); refine blk_put (cs := #[.string ((rd_T63 t840 x26_1).f0), .int .i64 0]) ?_ 1 _ rfl; (with_reducible repeat (first | refine blk_drewN ?_ _ | refine blk_drew ?_ | refine blk_alloc ?_ _)); refine blk_put (cs := #[.string (⟨#[]⟩ : ByteArray), .int .i64 0]) ?_ 0 _ rfl; (with_reducible repeat (first | refine blk_drewN ?_ _ | refine blk_drew ?_ | refine blk_alloc ?_ _)); exact BK845.out⟩
          have n3_ : Aside0 (Below w.heap.size w ((w17.setCell ⟨gb845, 0, none⟩ (.string ((rd_T63 t840 x26_1).f0))).setCell ⟨gb845, 1, none⟩ (.int .i64 ((rd_T63 t840 x26_1).f1)))) := ⟨by repeat (first | (with_reducible first | exact HB.out | apply below_alloc | apply pw_below_drewN | apply below_drew1 | refine below_set ?_ GE845.out) | exact HB.out)⟩
          (try clear HO_9)
          (try clear HO_24)
          (try clear BK845)
          (try clear HB)
          generalize ((w17.setCell ⟨gb845, 0, none⟩ (.string ((rd_T63 t840 x26_1).f0))).setCell ⟨gb845, 1, none⟩ (.int .i64 ((rd_T63 t840 x26_1).f1))) = w19 at n0_ n1_ n2_ n3_ ⊢
          have HO_9 := n0_
          have HO_24 := n1_
          have BK845 := n2_
          have HB := n3_
          clear n0_ n1_ n2_ n3_
          have n0_ := Aside0.mk (Kd.R_drew HO_9.out)
          have n1_ := Aside0.mk (Kd.R_drew HO_24.out)
          have n2_ := Aside0.mk (blk_drew BK845.out)
          have n3_ := Aside0.mk (below_drew1 HB.out)
          clear HO_9
          clear HO_24
          clear BK845
          clear HB
          have HO_9 := n0_
          have HO_24 := n1_
          have BK845 := n2_
          have HB := n3_
          clear n0_ n1_ n2_ n3_
          refine start_ (n := 7) (S := fun w' => w'.cell? ⟨gb845, 0, none⟩ = some (.string ((rd_T63 t840 x26_1).f0)) ∧ w'.cell? ⟨gb845, 1, none⟩ = some (.int .i64 ((rd_T63 t840 x26_1).f1))) (ds := []) (tf_ 0 7) (by kernel_rfl) rfl rfl ⟨(blk_cell BK845.out 0).trans rfl, (blk_cell BK845.out 1).trans rfl⟩ (fun hHeld => ?_)
          generalize w19.drew = w20 at HO_9 HO_24 BK845 HB hHeld ⊢
          refine pure_ (i := 0) (N := some 30) (v := ?_) (a' := ?_) (tf_ 1 6) rfl rfl (by kernel_rfl) (fun _ _ _ h => h) (Or.inl ⟨by rfl, ?_⟩) ?_ ?_
          rotate_left
          ·intro w'
           go_simp
           with_reducible rfl
          rotate_left
          ·simp only [Act.put, List.setIfInBounds_toArray, List.set_cons_zero, List.set_cons_succ, i64_w, i32_w]
           rfl
          refine pure_ (i := 2) (N := some 32) (v := ?_) (a' := ?_) #[true, false, true, false, false, false, false] rfl rfl (by kernel_rfl) (fun _ _ _ h => h) (Or.inl ⟨by rfl, ?_⟩) ?_ ?_
          rotate_left
          ·intro w'
           go_simp
           with_reducible rfl
          rotate_left
          ·simp only [Act.put, List.setIfInBounds_toArray, List.set_cons_zero, List.set_cons_succ, i64_w, i32_w]
           rfl
          refine take_ (i := 3) (N := some 33) (v := ?_) (a' := ?_) #[true, false, true, true, false, false, false] rfl rfl (by kernel_rfl) (fun _ _ _ h => h) (Or.inl ⟨by rfl, ?_⟩) hHeld ?_ ?_
          rotate_left
          ·rintro w' ⟨s0, s1⟩
           go_simp
           with_reducible rfl
          rotate_left
          ·simp only [Act.put, List.setIfInBounds_toArray, List.set_cons_zero, List.set_cons_succ, i64_w, i32_w]
           rfl
          refine join_ (σ := Value × Value) 2 (tf_ 5 2) (fun s_ => [(31, s_.1), (34, s_.2)]) (fun s_ w' => (w'.cell? ⟨gb845, 0, none⟩ = some (.string ((rd_T63 t840 x26_1).f0)) ∧ w'.cell? ⟨gb845, 1, none⟩ = some (.int .i64 ((rd_T63 t840 x26_1).f1))) ∧ (Kd.R Kd.string 9 w' w.heap.size (fun k_ => some k_ ≠ (s_.2 : Value).ownBlock ∧ some k_ ≠ (u9 : Value).ownBlock) s_.1 t846) ∧ (Kd.R Kd.string 9 w' w.heap.size (fun k_ => some k_ ≠ (s_.1 : Value).ownBlock ∧ some k_ ≠ (u9 : Value).ownBlock) s_.2 y849) ∧ (Kd.R k63 63 w' w.heap.size (fun k_ => k_ ≠ gb845) (.slice (some ad844) t840.length co7) t840) ∧ (Kd.R Kd.string 9 w' w.heap.size (fun k_ => some k_ ≠ (s_.1 : Value).ownBlock ∧ some k_ ≠ (s_.2 : Value).ownBlock) u9 x9_1) ∧ (w'.heap[gb845]? = some (.cells #[.string ((rd_T63 t840 x26_1).f0), .int .i64 ((rd_T63 t840 x26_1).f1)] 63 (0, 0))) ∧ (Below w.heap.size w w')) ?_ ?_
          rotate_left
          ·intro hCont
           refine two_ (i := 1) (j := 4) (Ni := some 31) (Nj := some 34) (tf_ 4 3) #[true, false, true, true, true, false, false] rfl rfl rfl rfl (by kernel_rfl) (by decide) (by decide) (fun K hK => ?_) (fun K hK => ?_)
           ·skip
            refine goes_ Tryd.func90 (by kernel_rfl) rfl #[.slice A2 l2.length c2] (by rfl) rfl rfl sl_ ?_
            with_reducible refine (slices_Clone_string.calls _ _ l2 t846 _ ?side1 ?side2 A11.out).mono ?_
            (case side1 => exact kC_ (Kd.C_below HR2.out HB.out))
            (case side2 => exact HC2.out)
            rintro e w21 ⟨v847, rfl, ho0, hb⟩
            refine ⟨_, rfl, ?_⟩
            have n0_ := Aside0.mk (Kd.R_elder' (kR_ HO_9.out) (Kd.R_base ho0) hb)
            have n1_ := Aside0.mk (Kd.R_below (kR_ HO_24.out) hb)
            have n2_ := Aside0.mk (Kd.R_lower (Kd.R_new' ho0 (Kd.R_lt (kR_ HO_9.out))) (below_size (by repeat (first | (with_reducible first | exact HB.out | apply below_alloc | apply pw_below_drewN | apply below_drew1 | refine below_set ?_ GE845.out) | exact HB.out))))
            have n3_ := Aside0.mk (blk_below (g := gb845) (o := .cells #[.string ((rd_T63 t840 x26_1).f0), .int .i64 ((rd_T63 t840 x26_1).f1)] 63 (0, 0)) (kB_ BK845.out) hb)
            have n4_ := Aside0.mk (below_step (by repeat (first | (with_reducible first | exact HB.out | apply below_alloc | apply pw_below_drewN | apply below_drew1 | refine below_set ?_ GE845.out) | exact HB.out)) hb)
            clear HO_9
            clear HO_24
            clear BK845
            clear HB
            have HO_9 := n0_
            have HO_24 := n1_
            have HO848 := n2_
            have BK845 := n3_
            have HB := n4_
            clear n0_ n1_ n2_ n3_ n4_
            (try clear hb)
            (try clear hb2)
            (try clear hk)
            (try clear hi)
            (try clear ho0)
            refine hK.out _ _ ⟨(blk_cell BK845.out 0).trans rfl, (blk_cell BK845.out 1).trans rfl⟩ (fun hHeld => ?_)
            clear hK K
            refine norm_ (a' := ?_) ?_ ?_
            rotate_left
            ·show Act.put _ (some 31) _ = _
             simp only [Act.put, List.setIfInBounds_toArray, List.set_cons_zero, List.set_cons_succ, i64_w, i32_w]
             rfl
            refine one_ (i := 4) (N := some 34) (tf_ 5 2) rfl rfl (by kernel_rfl) (by decide) (fun K hK => ?_)
            refine Kd.R_lit_step Kd.string _ 9 ?hg (N := 34) ?hd (xs := ([(rd_T63 t840 x26_1).f0] : List ByteArray)) (inner := [.string ((rd_T63 t840 x26_1).f0)]) (ok := fun _ => True) (okp := fun _ => True) ?hr ?hp (fun _ hk => hk) trivial (Below.refl _ _) (Nat.le_refl _) (by simp) ?_; (case hd => rfl); (case hg => rfl); (case hr => first | (go_simp; done) | (go_simp; rfl)); (case hp => exact (Reps.one (show Kd.M Kd.string _ _ _ ((rd_T63 t840 x26_1).f0) [.string ((rd_T63 t840 x26_1).f0)] from rfl) (Reps.none _ _)))
            intro v850 w22 ho23 hb hg_ hnew_
            clear hg_ hnew_
            (first | rw [← Ny849.out] at ho23 | (simp only [Int.reduceToNat] at ho23; rw [← Ny849.out] at ho23))
            have n0_ := Aside0.mk (Kd.R_elder' (kR_ HO_9.out) (Kd.R_base ho23) hb)
            have n1_ := Aside0.mk (Kd.R_below (kR_ HO_24.out) hb)
            have n2_ := Aside0.mk (Kd.R_elder' (kR_ HO848.out) (Kd.R_base ho23) hb)
            have n3_ := Aside0.mk (Kd.R_lower (Kd.R_new' (Kd.R_new' ho23 (Kd.R_lt (kR_ HO_9.out))) (Kd.R_lt (kR_ HO848.out))) (below_size (by repeat (first | (with_reducible first | exact HB.out | apply below_alloc | apply pw_below_drewN | apply below_drew1 | refine below_set ?_ GE845.out) | exact HB.out))))
            have n4_ := Aside0.mk (blk_below (g := gb845) (o := .cells #[.string ((rd_T63 t840 x26_1).f0), .int .i64 ((rd_T63 t840 x26_1).f1)] 63 (0, 0)) (kB_ BK845.out) hb)
            have n5_ := Aside0.mk (below_step (by repeat (first | (with_reducible first | exact HB.out | apply below_alloc | apply pw_below_drewN | apply below_drew1 | refine below_set ?_ GE845.out) | exact HB.out)) hb)
            clear HO_9
            clear HO_24
            clear HO848
            clear BK845
            clear HB
            have HO_9 := n0_
            have HO_24 := n1_
            have HO848 := n2_
            have HO851 := n3_
            have BK845 := n4_
            have HB := n5_
            clear n0_ n1_ n2_ n3_ n4_ n5_
            clear hb ho23
            refine hK.out _ _ ⟨(blk_cell BK845.out 0).trans rfl, (blk_cell BK845.out 1).trans rfl⟩ (fun hHeld => ?_)
            clear hK K
            refine norm_ (a' := ?_) ?_ ?_
            rotate_left
            ·show Act.put _ (some 34) _ = _
             simp only [Act.put, List.setIfInBounds_toArray, List.set_cons_zero, List.set_cons_succ, i64_w, i32_w]
             rfl
            exact norm_ (by simp only [putAll, Act.put, List.setIfInBounds_toArray, List.set_cons_zero, List.set_cons_succ]) (hCont (v847, v850) _ ⟨hHeld, (by (with_reducible repeat (first | apply Kd.R_alloc | apply Kd.R_drewN | apply Kd.R_drew)); exact Kd.R_mono HO848.out (fun _ hk => ⟨hk.2, hk.1.2⟩)), (by (with_reducible repeat (first | apply Kd.R_alloc | apply Kd.R_drewN | apply Kd.R_drew)); exact Kd.R_mono HO851.out (fun _ hk => ⟨hk.2, hk.1.2⟩)), (kR_ HO_24.out), (by (with_reducible repeat (first | apply Kd.R_alloc | apply Kd.R_drewN | apply Kd.R_drew)); exact Kd.R_mono HO_9.out (fun _ hk => ⟨hk.1.2, hk.2⟩)), (kB_ BK845.out), (by repeat (first | (with_reducible first | exact HB.out | apply below_alloc | apply pw_below_drewN | apply below_drew1 | refine below_set ?_ GE845.out) | exact HB.out))⟩)
           ·skip
            refine Kd.R_lit_step Kd.string _ 9 ?hg (N := 34) ?hd (xs := ([(rd_T63 t840 x26_1).f0] : List ByteArray)) (inner := [.string ((rd_T63 t840 x26_1).f0)]) (ok := fun _ => True) (okp := fun _ => True) ?hr ?hp (fun _ hk => hk) trivial (Below.refl _ _) (Nat.le_refl _) (by simp) ?_; (case hd => rfl); (case hg => rfl); (case hr => first | (go_simp; done) | (go_simp; rfl)); (case hp => exact (Reps.one (show Kd.M Kd.string _ _ _ ((rd_T63 t840 x26_1).f0) [.string ((rd_T63 t840 x26_1).f0)] from rfl) (Reps.none _ _)))
            intro v850 w21 ho22 hb hg_ hnew_
            clear hg_ hnew_
            (first | rw [← Ny849.out] at ho22 | (simp only [Int.reduceToNat] at ho22; rw [← Ny849.out] at ho22))
            have n0_ := Aside0.mk (Kd.R_elder' (kR_ HO_9.out) (Kd.R_base ho22) hb)
            have n1_ := Aside0.mk (Kd.R_below (kR_ HO_24.out) hb)
            have n2_ := Aside0.mk (Kd.R_lower (Kd.R_new' ho22 (Kd.R_lt (kR_ HO_9.out))) (below_size (by repeat (first | (with_reducible first | exact HB.out | apply below_alloc | apply pw_below_drewN | apply below_drew1 | refine below_set ?_ GE845.out) | exact HB.out))))
            have n3_ := Aside0.mk (blk_below (g := gb845) (o := .cells #[.string ((rd_T63 t840 x26_1).f0), .int .i64 ((rd_T63 t840 x26_1).f1)] 63 (0, 0)) (kB_ BK845.out) hb)
            have n4_ := Aside0.mk (below_step (by repeat (first | (with_reducible first | exact HB.out | apply below_alloc | apply pw_below_drewN | apply below_drew1 | refine below_set ?_ GE845.out) | exact HB.out)) hb)
            clear HO_9
            clear HO_24
            clear BK845
            clear HB
            have HO_9 := n0_
            have HO_24 := n1_
            have HO851 := n2_
            have BK845 := n3_
            have HB := n4_
            clear n0_ n1_ n2_ n3_ n4_
            clear hb ho22
            refine hK.out _ _ ⟨(blk_cell BK845.out 0).trans rfl, (blk_cell BK845.out 1).trans rfl⟩ (fun hHeld => ?_)
            clear hK K
            refine norm_ (a' := ?_) ?_ ?_
            rotate_left
            ·show Act.put _ (some 34) _ = _
             simp only [Act.put, List.setIfInBounds_toArray, List.set_cons_zero, List.set_cons_succ, i64_w, i32_w]
             rfl
            refine one_ (i := 1) (N := some 31) (tf_ 5 2) rfl rfl (by kernel_rfl) (by decide) (fun K hK => ?_)
            refine goes_ Tryd.func90 (by kernel_rfl) rfl #[.slice A2 l2.length c2] (by rfl) rfl rfl sl_ ?_
            with_reducible refine (slices_Clone_string.calls _ _ l2 t846 _ ?side1 ?side2 A11.out).mono ?_
            (case side1 => exact kC_ (Kd.C_below HR2.out HB.out))
            (case side2 => exact HC2.out)
            rintro e w23 ⟨v847, rfl, ho0, hb⟩
            refine ⟨_, rfl, ?_⟩
            have n0_ := Aside0.mk (Kd.R_elder' (kR_ HO_9.out) (Kd.R_base ho0) hb)
            have n1_ := Aside0.mk (Kd.R_below (kR_ HO_24.out) hb)
            have n2_ := Aside0.mk (Kd.R_elder' (kR_ HO851.out) (Kd.R_base ho0) hb)
            have n3_ := Aside0.mk (Kd.R_lower (Kd.R_new' (Kd.R_new' ho0 (Kd.R_lt (kR_ HO_9.out))) (Kd.R_lt (kR_ HO851.out))) (below_size (by repeat (first | (with_reducible first | exact HB.out | apply below_alloc | apply pw_below_drewN | apply below_drew1 | refine below_set ?_ GE845.out) | exact HB.out))))
            have n4_ := Aside0.mk (blk_below (g := gb845) (o := .cells #[.string ((rd_T63 t840 x26_1).f0), .int .i64 ((rd_T63 t840 x26_1).f1)] 63 (0, 0)) (kB_ BK845.out) hb)
            have n5_ := Aside0.mk (below_step (by repeat (first | (with_reducible first | exact HB.out | apply below_alloc | apply pw_below_drewN | apply below_drew1 | refine below_set ?_ GE845.out) | exact HB.out)) hb)
            clear HO_9
            clear HO_24
            clear HO851
            clear BK845
            clear HB
            have HO_9 := n0_
            have HO_24 := n1_
            have HO851 := n2_
            have HO848 := n3_
            have BK845 := n4_
            have HB := n5_
            clear n0_ n1_ n2_ n3_ n4_ n5_
            (try clear hb)
            (try clear hb2)
            (try clear hk)
            (try clear hi)
            (try clear ho0)
            refine hK.out _ _ ⟨(blk_cell BK845.out 0).trans rfl, (blk_cell BK845.out 1).trans rfl⟩ (fun hHeld => ?_)
            clear hK K
            refine norm_ (a' := ?_) ?_ ?_
            rotate_left
            ·show Act.put _ (some 31) _ = _
             simp only [Act.put, List.setIfInBounds_toArray, List.set_cons_zero, List.set_cons_succ, i64_w, i32_w]
             rfl
            exact norm_ (by simp only [putAll, Act.put, List.setIfInBounds_toArray, List.set_cons_zero, List.set_cons_succ]) (hCont (v847, v850) _ ⟨hHeld, (by (with_reducible repeat (first | apply Kd.R_alloc | apply Kd.R_drewN | apply Kd.R_drew)); exact Kd.R_mono HO848.out (fun _ hk => ⟨hk.2, hk.1.2⟩)), (by (with_reducible repeat (first | apply Kd.R_alloc | apply Kd.R_drewN | apply Kd.R_drew)); exact Kd.R_mono HO851.out (fun _ hk => ⟨hk.2, hk.1.2⟩)), (kR_ HO_24.out), (by (with_reducible repeat (first | apply Kd.R_alloc | apply Kd.R_drewN | apply Kd.R_drew)); exact Kd.R_mono HO_9.out (fun _ hk => ⟨hk.2, hk.1.2⟩)), (kB_ BK845.out), (by repeat (first | (with_reducible first | exact HB.out | apply below_alloc | apply pw_below_drewN | apply below_drew1 | refine below_set ?_ GE845.out) | exact HB.out))⟩)
          rintro ⟨v847, v850⟩ w24 ⟨hS_, h0_, h1_, h2_, h3_, h4_, h5_⟩
          have n0_ : Aside0 (Kd.R Kd.string 9 w24 w.heap.size (fun k_ => some k_ ≠ (v850 : Value).ownBlock ∧ some k_ ≠ (u9 : Value).ownBlock) v847 t846) := ⟨h0_⟩
          have n1_ : Aside0 (Kd.R Kd.string 9 w24 w.heap.size (fun k_ => some k_ ≠ (v847 : Value).ownBlock ∧ some k_ ≠ (u9 : Value).ownBlock) v850 y849) := ⟨h1_⟩
          have n2_ : Aside0 (Kd.R k63 63 w24 w.heap.size (fun k_ => k_ ≠ gb845) (.slice (some ad844) t840.length co7) t840) := ⟨h2_⟩
          have n3_ : Aside0 (Kd.R Kd.string 9 w24 w.heap.size (fun k_ => some k_ ≠ (v847 : Value).ownBlock ∧ some k_ ≠ (v850 : Value).ownBlock) u9 x9_1) := ⟨h3_⟩
          have n4_ : Aside0 (w24.heap[gb845]? = some (.cells #[.string ((rd_T63 t840 x26_1).f0), .int .i64 ((rd_T63 t840 x26_1).f1)] 63 (0, 0))) := ⟨h4_⟩
          have n5_ : Aside0 (Below w.heap.size w w24) := ⟨h5_⟩
          clear HO_9
          clear HO_24
          clear BK845
          clear HB
          clear h0_ h1_ h2_ h3_ h4_ h5_
          have HO848 := n0_
          have HO851 := n1_
          have HO_24 := n2_
          have HO_9 := n3_
          have BK845 := n4_
          have HB := n5_
          clear n0_ n1_ n2_ n3_ n4_ n5_
          have hHeld : w24.cell? ⟨gb845, 0, none⟩ = some (.string ((rd_T63 t840 x26_1).f0)) ∧ w24.cell? ⟨gb845, 1, none⟩ = some (.int .i64 ((rd_T63 t840 x26_1).f1)) := hS_
          obtain ⟨Ao26, co26, eo26⟩ := Kd.R_slice HO851.out
          (first | subst eo26 | (injection eo26 with f1_ f2_ f3_; have f4_ := f1_.symm; have f5_ := f3_.symm; clear f1_ f2_ f3_; subst f4_; subst f5_))
          refine norm_ (a' := ?_) ?_ ?_
          rotate_left
          ·simp only [putAll, Act.put, List.setIfInBounds_toArray, List.set_cons_zero, List.set_cons_succ]
           rfl
          refine one_ (i := 5) (N := some 35) (tf_ 6 1) rfl rfl (by kernel_rfl) (by decide) (fun K hK => ?_)
          refine Kd.R_append_rows_step Kd.string (w0 := w) w.heap.size (by rfl) (.tmp 31) (.tmp 34) 44 9 (.string ⟨#[]⟩) 16 rfl Tryd.underlying44 info9 rfl (by decide) (by omega) v847 t846 y849 _ _ _ (fun k_ => some k_ ≠ (u9 : Value).ownBlock ∧ some k_ ≠ (.slice Ao26 y849.length co26 : Value).ownBlock) (fun _ => False) rfl rfl ?aO ?aR (fun _ _ h => h) (fun _ h => h.elim) ?aF ?aB ?aS ?aL ?_
          (case aR => repeat (first | exact (Kd.R_reads' HO851.out).2.2 | (with_reducible refine Kd.C_alloc ?_ _) | (with_reducible refine Kd.C_drewN ?_ _) | (with_reducible refine Kd.C_drew ?_)))
          (case aB => exact (by repeat (first | (with_reducible first | exact HB.out | apply below_alloc | apply pw_below_drewN | apply below_drew1 | refine below_set ?_ GE845.out) | exact HB.out)))
          (case aF => exact (fun k_ hk => ⟨Kd.fresh' (Kd.R_lt (kR_ HO_9.out)) k_ hk, Kd.fresh' (Kd.R_lt (kR_ HO851.out)) k_ hk⟩))
          (case aO => exact (by (with_reducible repeat (first | apply Kd.R_alloc | apply Kd.R_drewN | apply Kd.R_drew)); exact Kd.R_mono HO848.out (fun _ hk => ⟨hk.2, hk.1⟩)))
          (case aS => exact (below_size (by repeat (first | (with_reducible first | exact HB.out | apply below_alloc | apply pw_below_drewN | apply below_drew1 | refine below_set ?_ GE845.out) | exact HB.out))))
          (case aL => have := LMc12.out; omega)
          intro v853 w25 ho hb hg hat
          rw [← Ny852.out] at ho
          have n0_ := Aside0.mk (Kd.R_after (ok := (fun k_ => some k_ ≠ (.slice Ao26 y849.length co26 : Value).ownBlock)) (by (with_reducible repeat (first | apply Kd.R_alloc | apply Kd.R_drewN | apply Kd.R_drew)); exact Kd.R_mono HO_9.out (fun _ hk => ⟨hk.2, hk.1⟩)) hg hat)
          have n1_ := Aside0.mk (Kd.R_over' (kR_ HO_24.out) (Kd.R_typed (kR_ HO848.out)) (by decide) hg)
          have n2_ := Aside0.mk (blk_grown (g := gb845) (o := .cells #[.string ((rd_T63 t840 x26_1).f0), .int .i64 ((rd_T63 t840 x26_1).f1)] 63 (0, 0)) (kB_ BK845.out) hg (Kd.R_ne HO848.out BK845.out (by decide)))
          have n3_ := Aside0.mk (Kd.R_after (ok := (fun k_ => some k_ ≠ (u9 : Value).ownBlock)) (by (with_reducible repeat (first | apply Kd.R_alloc | apply Kd.R_drewN | apply Kd.R_drew)); exact Kd.R_mono HO851.out (fun _ hk => ⟨hk.2, hk.1⟩)) hg hat)
          have n4_ := Aside0.mk (hb)
          have n5_ := Aside0.mk (ho)
          clear HO_9
          clear HO_24
          clear BK845
          clear HO851
          clear HB
          clear HO848
          have HO_9 := n0_
          have HO_24 := n1_
          have BK845 := n2_
          have HO851 := n3_
          have HB := n4_
          have HO854 := n5_
          clear n0_ n1_ n2_ n3_ n4_ n5_
          clear ho hb hg hat
          refine hK.out _ _ ⟨(blk_cell BK845.out 0).trans rfl, (blk_cell BK845.out 1).trans rfl⟩ (fun hHeld => ?_)
          clear hK K
          refine norm_ (a' := ?_) ?_ ?_
          rotate_left
          ·show Act.put _ (some 35) _ = _
           simp only [Act.put, List.setIfInBounds_toArray, List.set_cons_zero, List.set_cons_succ, i64_w, i32_w]
           rfl
          refine pure_ (i := 6) (N := some 12) (v := ?_) (a' := ?_) (tf_ 7 0) rfl rfl (by kernel_rfl) (fun _ _ _ h => h) (Or.inl ⟨by rfl, ?_⟩) ?_ ?_
          rotate_left
          ·intro w'
           go_simp
           with_reducible rfl
          rotate_left
          ·simp only [Act.put, List.setIfInBounds_toArray, List.set_cons_zero, List.set_cons_succ, i64_w, i32_w]
           rfl
          refine done_ (by kernel_rfl) ?_
          have hcz27_0 : w25.cell? ⟨gb845, 0, none⟩ = some (.string ((rd_T63 t840 x26_1).f0)) := (blk_cell BK845.out 0).trans rfl
          have hcz27_1 : w25.cell? ⟨gb845, 1, none⟩ = some (.int .i64 ((rd_T63 t840 x26_1).f1)) := (blk_cell BK845.out 1).trans rfl
          have hfz27_0 := blk_frozen BK845.out 0
          have hfz27_1 := blk_frozen BK845.out 1
          try go_wp2_with (first | ((with_reducible refine gate_callee (f := 91) rfl ?_); refine goesL_ (some 40) rfl rfl Tryd.func91 (by kernel_rfl) rfl #[.slice A0 l0.length c0, .int .i64 ((rd_T63 t840 x26_1).f1)] rfl sl_ ?_; (with_reducible refine (impl_fileOf.calls k1 _ _ l0 ((rd_T63 t840 x26_1).f1) t855 true _ ?side1 ?side2 A13.out).mono ?_); (case side1 => exact kC_ (Kd.C_below HR0.out HB.out)); (case side2 => exact HC0.out); rintro e w28 ⟨rfl, hb⟩; refine ⟨_, rfl, ?_⟩; replace HO_9 := Aside0.mk (Kd.R_below (kR_ HO_9.out) hb); replace HO_24 := Aside0.mk (Kd.R_below (kR_ HO_24.out) hb); replace HO851 := Aside0.mk (Kd.R_below (kR_ HO851.out) hb); replace HO854 := Aside0.mk (Kd.R_below (kR_ HO854.out) hb); replace BK845 := Aside0.mk (blk_below (g := gb845) (o := .cells #[.string ((rd_T63 t840 x26_1).f0), .int .i64 ((rd_T63 t840 x26_1).f1)] 63 (0, 0)) (kB_ BK845.out) hb); replace HB := Aside0.mk (below_step (by repeat (first | (with_reducible first | exact HB.out | apply below_alloc | apply pw_below_drewN | apply below_drew1 | refine below_set ?_ GE845.out) | exact HB.out)) hb); (try clear hb); (try clear hk); obtain ⟨Ao29, co29, eo29⟩ := Kd.R_slice HO854.out; subst eo29) | ((with_reducible refine gate_callee (f := 92) rfl ?_); refine goesL_ (some 46) rfl rfl Tryd.func92 (by kernel_rfl) rfl #[.slice Ao29 y852.length co29] rfl sl_ ?_; (with_reducible refine (impl_JoinPath.calls k1 _ _ y852 t857 _ ?side1 ?side2 A15.out).mono ?_); (case side1 => exact kC_ ((Kd.R_reads' HO854.out).2.2)); (case side2 => exact (Kd.R_reads' HO854.out).2.1); rintro e w30 ⟨rfl, hb⟩; refine ⟨_, rfl, ?_⟩; replace HO_9 := Aside0.mk (Kd.R_below (kR_ HO_9.out) hb); replace HO_24 := Aside0.mk (Kd.R_below (kR_ HO_24.out) hb); replace HO851 := Aside0.mk (Kd.R_below (kR_ HO851.out) hb); replace HO854 := Aside0.mk (Kd.R_below (kR_ HO854.out) hb); replace BK845 := Aside0.mk (blk_below (g := gb845) (o := .cells #[.string ((rd_T63 t840 x26_1).f0), .int .i64 ((rd_T63 t840 x26_1).f1)] 63 (0, 0)) (kB_ BK845.out) hb); replace HB := Aside0.mk (below_step (by repeat (first | (with_reducible first | exact HB.out | apply below_alloc | apply pw_below_drewN | apply below_drew1 | refine below_set ?_ GE845.out) | exact HB.out)) hb); (try clear hb); (try clear hk)) | ((with_reducible refine gate_dst (N := 47) rfl ?_); refine Kd.R_lit Kd.string _ 9 ?hg (N := 47) ?hd (xs := ([t857] : List ByteArray)) (inner := [.string t857]) (ok := fun _ => True) (okp := fun _ => True) ?hr ?hp (fun _ hk => hk) trivial (Below.refl _ _) (Nat.le_refl _) (by simp) ?_; (case hd => rfl); (case hg => rfl); (case hr => first | (go_simp; done) | (go_simp; rfl)); (case hp => exact (Reps.one (show Kd.M Kd.string _ _ _ t857 [.string t857] from rfl) (Reps.none _ _))); intro v859 w31 ho32 hb hg_ hnew_; clear hg_ hnew_; (first | rw [← Ny858.out] at ho32 | (simp only [Int.reduceToNat] at ho32; rw [← Ny858.out] at ho32)); replace HO_24 := Aside0.mk (Kd.R_below (kR_ HO_24.out) hb); have HO860 := Aside0.mk (Kd.R_lower (Kd.R_new' (Kd.R_new' (Kd.R_new' ho32 (Kd.R_lt (kR_ HO_9.out))) (Kd.R_lt (kR_ HO851.out))) (Kd.R_lt (kR_ HO854.out))) (below_size (by repeat (first | (with_reducible first | exact HB.out | apply below_alloc | apply pw_below_drewN | apply below_drew1 | refine below_set ?_ GE845.out) | exact HB.out)))); replace HO_9 := Aside0.mk (Kd.R_elder' (kR_ HO_9.out) (Kd.R_base ho32) hb); replace HO851 := Aside0.mk (Kd.R_elder' (kR_ HO851.out) (Kd.R_base ho32) hb); replace HO854 := Aside0.mk (Kd.R_elder' (kR_ HO854.out) (Kd.R_base ho32) hb); replace BK845 := Aside0.mk (blk_below (g := gb845) (o := .cells #[.string ((rd_T63 t840 x26_1).f0), .int .i64 ((rd_T63 t840 x26_1).f1)] 63 (0, 0)) (kB_ BK845.out) hb); replace HB := Aside0.mk (below_step (by repeat (first | (with_reducible first | exact HB.out | apply below_alloc | apply pw_below_drewN | apply below_drew1 | refine below_set ?_ GE845.out) | exact HB.out)) hb); clear hb ho32; obtain ⟨Ao34, co34, eo34⟩ := Kd.R_slice HO860.out; subst eo34) | ((with_reducible refine gate_builtin (b := .append) (xs := #[.tmp 44, .tmp 47]) rfl ?_); at_builtin; refine Kd.R_append_rows Kd.string (w0 := w) w.heap.size rfl (.tmp 44) (.tmp 47) 44 9 (.string ⟨#[]⟩) 16 rfl Tryd.underlying44 info9 rfl (by decide) (by omega) u9 x9_1 y858 _ _ _ (fun k_ => some k_ ≠ (.slice Ao26 y849.length co26 : Value).ownBlock ∧ some k_ ≠ (.slice Ao29 y852.length co29 : Value).ownBlock ∧ some k_ ≠ (.slice Ao34 y858.length co34 : Value).ownBlock) (fun _ => False) rfl rfl ?aO ?aR (fun _ _ h => h) (fun _ h => h.elim) ?aF ?aB ?aS ?aL ?_; (case aR => repeat (first | exact (Kd.R_reads' HO860.out).2.2 | (with_reducible refine Kd.C_alloc ?_ _) | (with_reducible refine Kd.C_drewN ?_ _) | (with_reducible refine Kd.C_drew ?_))); (case aB => exact (by repeat (first | (with_reducible first | exact HB.out | apply below_alloc | apply pw_below_drewN | apply below_drew1 | refine below_set ?_ GE845.out) | exact HB.out))); (case aF => exact (fun k_ hk => ⟨Kd.fresh' (Kd.R_lt (kR_ HO851.out)) k_ hk, Kd.fresh' (Kd.R_lt (kR_ HO854.out)) k_ hk, Kd.fresh' (Kd.R_lt (kR_ HO860.out)) k_ hk⟩)); (case aO => exact (by (with_reducible repeat (first | apply Kd.R_alloc | apply Kd.R_drewN | apply Kd.R_drew)); exact Kd.R_mono HO_9.out (fun _ hk => ⟨hk.1.1, ⟨hk.1.2, hk.2⟩⟩))); (case aS => exact (below_size (by repeat (first | (with_reducible first | exact HB.out | apply below_alloc | apply pw_below_drewN | apply below_drew1 | refine below_set ?_ GE845.out) | exact HB.out)))); (case aL => have := LMc16.out; omega); intro v862 w33 ho hb hg hat; rw [← Ny861.out] at ho; have n0_ := Aside0.mk (Kd.R_over' (kR_ HO_24.out) (Kd.R_typed (kR_ HO_9.out)) (by decide) hg); have n1_ := Aside0.mk (blk_grown (g := gb845) (o := .cells #[.string ((rd_T63 t840 x26_1).f0), .int .i64 ((rd_T63 t840 x26_1).f1)] 63 (0, 0)) (kB_ BK845.out) hg (Kd.R_ne HO_9.out BK845.out (by decide))); have n2_ := Aside0.mk (Kd.R_after (ok := (fun k_ => some k_ ≠ (.slice Ao29 y852.length co29 : Value).ownBlock ∧ some k_ ≠ (.slice Ao34 y858.length co34 : Value).ownBlock)) (by (with_reducible repeat (first | apply Kd.R_alloc | apply Kd.R_drewN | apply Kd.R_drew)); exact Kd.R_mono HO851.out (fun _ hk => ⟨⟨hk.1.2, hk.2⟩, hk.1.1⟩)) hg hat); have n3_ := Aside0.mk (Kd.R_after (ok := (fun k_ => some k_ ≠ (.slice Ao26 y849.length co26 : Value).ownBlock ∧ some k_ ≠ (.slice Ao34 y858.length co34 : Value).ownBlock)) (by (with_reducible repeat (first | apply Kd.R_alloc | apply Kd.R_drewN | apply Kd.R_drew)); exact Kd.R_mono HO854.out (fun _ hk => ⟨⟨hk.1.2, hk.2⟩, hk.1.1⟩)) hg hat); have n4_ := Aside0.mk (Kd.R_after (ok := (fun k_ => some k_ ≠ (.slice Ao26 y849.length co26 : Value).ownBlock ∧ some k_ ≠ (.slice Ao29 y852.length co29 : Value).ownBlock)) (by (with_reducible repeat (first | apply Kd.R_alloc | apply Kd.R_drewN | apply Kd.R_drew)); exact Kd.R_mono HO860.out (fun _ hk => ⟨⟨hk.1.2, hk.2⟩, hk.1.1.2⟩)) hg hat); have n5_ := Aside0.mk (hb); have n6_ := Aside0.mk (ho); clear HO_24; clear BK845; clear HO851; clear HO854; clear HO860; clear HB; clear HO_9; have HO_24 := n0_; have BK845 := n1_; have HO851 := n2_; have HO854 := n3_; have HO860 := n4_; have HB := n5_; have HO863 := n6_; clear n0_ n1_ n2_ n3_ n4_ n5_ n6_; clear ho hb hg hat))
          go_roundg k1
          case measure => have := HK1.out; omega
          case rel => exact ⟨(y861), (wrap64 (x26_1 + 1)), (by first | rfl | (simp; done) | (simp [*]; done)), H', ⟨by have := HK1.out; omega⟩, ⟨by (with_reducible repeat (first | apply Kd.R_alloc | apply Kd.R_drewN | apply Kd.R_drew)); exact Kd.R_mono HO863.out (fun _ hk => trivial)⟩, ⟨by (with_reducible repeat (first | apply Kd.R_alloc | apply Kd.R_drewN | apply Kd.R_drew)); exact Kd.R_mono HO_24.out (fun _ hk => trivial)⟩, ⟨by repeat (first | (with_reducible first | exact HB.out | apply below_alloc | apply pw_below_drewN | apply below_drew1 | refine below_set ?_ GE845.out) | exact HB.out)⟩⟩
         ·rw [if_neg c16] at H
          exact absurd H (by simp)
        ·replace c14 := Bool.eq_false_iff.mpr c14
         subst c14
         have H1 : ((impl_filesBelow.f k1 l0 ((rd_T63 t840 x26_1).f1) y852).bind fun t864 => (if x9_1.length + t864.length < 8796093022208 then (impl_filesBelow.l0 k1 l0 l2 (x9_1 ++ t864) t840 (t840.length : Int) (wrap64 (x26_1 + 1))) else (none))) = some r := by rw [if_neg (show ¬ (false = true) by decide)] at H; exact H
         clear H
         have H := H1
         clear H1
         replace H := Option.bind_eq_some_iff.mp H
         obtain ⟨t864, A350, H⟩ := H
         replace H : (if x9_1.length + t864.length < 8796093022208 then (impl_filesBelow.l0 k1 l0 l2 (x9_1 ++ t864) t840 (t840.length : Int) (wrap64 (x26_1 + 1))) else (none)) = some r := H
         have A35 := Aside0.mk A350
         clear A350
         by_cases c36 : x9_1.length + t864.length < 8796093022208
         ·rw [if_pos c36] at H
          have LMc36 := Aside0.mk c36
          clear c36
          obtain ⟨y867, hy867⟩ : ∃ y_ : List ByteArray, y_ = (x9_1 ++ t864) := ⟨_, rfl⟩
          replace H : (impl_filesBelow.l0 k1 l0 l2 y867 t840 (t840.length : Int) (wrap64 (x26_1 + 1))) = some r := by first | (rw [hy867]; with_reducible exact H) | (have H2_ := (Option.bind_some _ _).symm.trans H; rw [hy867]; with_reducible exact H2_) | (have H2_ := (Option.bind_some _ _).symm.trans H; with_reducible exact H2_) | with_reducible exact H | (rw [hy867]; exact H) | exact H
          have Ny867 := Aside0.mk hy867
          clear hy867
          have H' := Aside0.mk H
          clear H
          have p844 : 0 ≤ (x26_1 : Int) := of_decide_eq_true ma_
          have q844 : x26_1 < (t840.length : Int) := of_decide_eq_true ma_
          obtain ⟨ad844, e844, hx844_0, hx844_1⟩ := at_T63 (Kd.R_reads' HO_24.out).2.2 x26_1 p844 q844
          cases e844
          replace p844 := eq_true p844
          replace q844 := eq_true q844
          try go_wp2_with (first | ((with_reducible refine gate_dst (N := 11) rfl ?_); refine box_event ?hg (N := 11) ?hd (cs := #[.string (⟨#[]⟩ : ByteArray), .int .i64 0]) (t := 63) ?hr ?_; (case hd => rfl); (case hg => rfl); (case hr => first | (go_simp; done) | (go_simp; rfl)); intro gb845 hg w37 hbox hb; have n0_ := Aside0.mk (Kd.R_below (kR_ HO_9.out) hb); have n1_ := Aside0.mk (Kd.R_below (Kd.R_elderB (kR_ HO_24.out) gb845 (Nat.le_of_eq hg.symm)) hb); have n2_ := Aside0.mk (below_step hb_ hb); have n3_ := Aside0.mk (hbox); have n4_ := Aside0.mk ((by rw [hg]; exact (below_size hb_) : w.heap.size ≤ gb845)); have n5_ := Aside0.mk ((by rw [hg]; exact (below_size hb_) : w.heap.size ≤ gb845)); clear HO_9; clear HO_24; clear HB; have HO_9 := n0_; have HO_24 := n1_; have HB := n2_; have BK845 := n3_; have GW845 := n4_; have GE845 := n5_; clear n0_ n1_ n2_ n3_ n4_ n5_; clear hb hbox hg; have hcz38_0 : w37.cell? ⟨gb845, 0, none⟩ = some (.string (⟨#[]⟩ : ByteArray)) := (blk_cell BK845.out 0).trans rfl; have hcz38_1 : w37.cell? ⟨gb845, 1, none⟩ = some (.int .i64 0) := (blk_cell BK845.out 1).trans rfl; have hfz38_0 := blk_frozen BK845.out 0; have hfz38_1 := blk_frozen BK845.out 1))
          have n0_ : Aside0 (Kd.R Kd.string 9 ((w37.setCell ⟨gb845, 0, none⟩ (.string ((rd_T63 t840 x26_1).f0))).setCell ⟨gb845, 1, none⟩ (.int .i64 ((rd_T63 t840 x26_1).f1))) w.heap.size (fun _ => True) u9 x9_1) := ⟨by (with_reducible repeat (first | apply Kd.R_alloc | apply Kd.R_drewN | apply Kd.R_drew)); exact Kd.R_mono (Kd.R_far (p := ⟨gb845, 1, none⟩) (Kd.R_far (p := ⟨gb845, 0, none⟩) (Kd.R_types HO_9.out BK845.out (by decide)) (fun _ hk => hk.2) (.string ((rd_T63 t840 x26_1).f0))) (fun _ hk => hk.2) (.int .i64 ((rd_T63 t840 x26_1).f1))) (fun _ hk => trivial)⟩
          have n1_ : Aside0 (Kd.R k63 63 ((w37.setCell ⟨gb845, 0, none⟩ (.string ((rd_T63 t840 x26_1).f0))).setCell ⟨gb845, 1, none⟩ (.int .i64 ((rd_T63 t840 x26_1).f1))) w.heap.size (fun k_ => k_ ≠ gb845) (.slice (some ad844) t840.length co7) t840) := ⟨by (with_reducible repeat (first | apply Kd.R_alloc | apply Kd.R_drewN | apply Kd.R_drew)); exact Kd.R_mono (Kd.R_far (p := ⟨gb845, 1, none⟩) (Kd.R_far (p := ⟨gb845, 0, none⟩) (Kd.R_mono HO_24.out (fun k_ hk => (⟨hk, hk.2⟩ : _ ∧ k_ ≠ gb845))) (fun _ hk => hk.2) (.string ((rd_T63 t840 x26_1).f0))) (fun _ hk => hk.2) (.int .i64 ((rd_T63 t840 x26_1).f1))) (fun _ hk => hk.1.2)⟩
          have n2_ : Aside0 (((w37.setCell ⟨gb845, 0, none⟩ (.string ((rd_T63 t840 x26_1).f0))).setCell ⟨gb845, 1, none⟩ (.int .i64 ((rd_T63 t840 x26_1).f1))).heap[gb845]? = some (.cells #[.string ((rd_T63 t840 x26_1).f0), .int .i64 ((rd_T63 t840 x26_1).f1)] 63 (0, 0))) := ⟨by (with_reducible repeat (first | refine blk_drewN ?_ _ | refine blk_drew ?_ | refine blk_alloc ?_ _)); refine blk_put (cs := #[.string ((rd_T63 t840 x26_1).f0), .int .i64 0]) ?_ 1 _ rfl; (with_reducible repeat (first | refine blk_drewN ?_ _ | refine blk_drew ?_ | refine blk_alloc ?_ _)); refine blk_put (cs := #[.string (⟨#[]⟩ : ByteArray), .int .i64 0]) ?_ 0 _ rfl; (with_reducible repeat (first | refine blk_drewN ?_ _ | refine blk_drew ?_ | refine blk_alloc ?_ _)); exact BK845.out⟩
          have n3_ : Aside0 (Below w.heap.size w ((w37.setCell ⟨gb845, 0, none⟩ (.string ((rd_T63 t840 x26_1).f0))).setCell ⟨gb845, 1, none⟩ (.int .i64 ((rd_T63 t840 x26_1).f1)))) := ⟨by repeat (first | (with_reducible first | exact HB.out | apply below_alloc | apply pw_below_drewN | apply below_drew1 | refine below_set ?_ GE845.out) | exact HB.out)⟩
          (try clear HO_9)
          (try clear HO_24)
          (try clear BK845)
          (try clear HB)
          generalize ((w37.setCell ⟨gb845, 0, none⟩ (.string ((rd_T63 t840 x26_1).f0))).setCell ⟨gb845, 1, none⟩ (.int .i64 ((rd_T63 t840 x26_1).f1))) = w39 at n0_ n1_ n2_ n3_ ⊢
          have HO_9 := n0_
          have HO_24 := n1_
          have BK845 := n2_
          have HB := n3_
          clear n0_ n1_ n2_ n3_
          have n0_ := Aside0.mk (Kd.R_drew HO_9.out)
          have n1_ := Aside0.mk (Kd.R_drew HO_24.out)
          have n2_ := Aside0.mk (blk_drew BK845.out)
          have n3_ := Aside0.mk (below_drew1 HB.out)
          clear HO_9
          clear HO_24
          clear BK845
          clear HB
          have HO_9 := n0_
          have HO_24 := n1_
          have BK845 := n2_
          have HB := n3_
          clear n0_ n1_ n2_ n3_
          refine start_ (n := 7) (S := fun w' => w'.cell? ⟨gb845, 0, none⟩ = some (.string ((rd_T63 t840 x26_1).f0)) ∧ w'.cell? ⟨gb845, 1, none⟩ = some (.int .i64 ((rd_T63 t840 x26_1).f1))) (ds := []) (tf_ 0 7) (by kernel_rfl) rfl rfl ⟨(blk_cell BK845.out 0).trans rfl, (blk_cell BK845.out 1).trans rfl⟩ (fun hHeld => ?_)
          generalize w39.drew = w40 at HO_9 HO_24 BK845 HB hHeld ⊢
          refine pure_ (i := 0) (N := some 30) (v := ?_) (a' := ?_) (tf_ 1 6) rfl rfl (by kernel_rfl) (fun _ _ _ h => h) (Or.inl ⟨by rfl, ?_⟩) ?_ ?_
          rotate_left
          ·intro w'
           go_simp
           with_reducible rfl
          rotate_left
          ·simp only [Act.put, List.setIfInBounds_toArray, List.set_cons_zero, List.set_cons_succ, i64_w, i32_w]
           rfl
          refine pure_ (i := 2) (N := some 32) (v := ?_) (a' := ?_) #[true, false, true, false, false, false, false] rfl rfl (by kernel_rfl) (fun _ _ _ h => h) (Or.inl ⟨by rfl, ?_⟩) ?_ ?_
          rotate_left
          ·intro w'
           go_simp
           with_reducible rfl
          rotate_left
          ·simp only [Act.put, List.setIfInBounds_toArray, List.set_cons_zero, List.set_cons_succ, i64_w, i32_w]
           rfl
          refine take_ (i := 3) (N := some 33) (v := ?_) (a' := ?_) #[true, false, true, true, false, false, false] rfl rfl (by kernel_rfl) (fun _ _ _ h => h) (Or.inl ⟨by rfl, ?_⟩) hHeld ?_ ?_
          rotate_left
          ·rintro w' ⟨s0, s1⟩
           go_simp
           with_reducible rfl
          rotate_left
          ·simp only [Act.put, List.setIfInBounds_toArray, List.set_cons_zero, List.set_cons_succ, i64_w, i32_w]
           rfl
          refine join_ (σ := Value × Value) 2 (tf_ 5 2) (fun s_ => [(31, s_.1), (34, s_.2)]) (fun s_ w' => (w'.cell? ⟨gb845, 0, none⟩ = some (.string ((rd_T63 t840 x26_1).f0)) ∧ w'.cell? ⟨gb845, 1, none⟩ = some (.int .i64 ((rd_T63 t840 x26_1).f1))) ∧ (Kd.R Kd.string 9 w' w.heap.size (fun k_ => some k_ ≠ (s_.2 : Value).ownBlock ∧ some k_ ≠ (u9 : Value).ownBlock) s_.1 t846) ∧ (Kd.R Kd.string 9 w' w.heap.size (fun k_ => some k_ ≠ (s_.1 : Value).ownBlock ∧ some k_ ≠ (u9 : Value).ownBlock) s_.2 y849) ∧ (Kd.R k63 63 w' w.heap.size (fun k_ => k_ ≠ gb845) (.slice (some ad844) t840.length co7) t840) ∧ (Kd.R Kd.string 9 w' w.heap.size (fun k_ => some k_ ≠ (s_.1 : Value).ownBlock ∧ some k_ ≠ (s_.2 : Value).ownBlock) u9 x9_1) ∧ (w'.heap[gb845]? = some (.cells #[.string ((rd_T63 t840 x26_1).f0), .int .i64 ((rd_T63 t840 x26_1).f1)] 63 (0, 0))) ∧ (Below w.heap.size w w')) ?_ ?_
          rotate_left
          ·intro hCont
           refine two_ (i := 1) (j := 4) (Ni := some 31) (Nj := some 34) (tf_ 4 3) #[true, false, true, true, true, false, false] rfl rfl rfl rfl (by kernel_rfl) (by decide) (by decide) (fun K hK => ?_) (fun K hK => ?_)
           ·skip
            refine goes_ Tryd.func90 (by kernel_rfl) rfl #[.slice A2 l2.length c2] (by rfl) rfl rfl sl_ ?_
            with_reducible refine (slices_Clone_string.calls _ _ l2 t846 _ ?side1 ?side2 A11.out).mono ?_
            (case side1 => exact kC_ (Kd.C_below HR2.out HB.out))
            (case side2 => exact HC2.out)
            rintro e w41 ⟨v847, rfl, ho0, hb⟩
            refine ⟨_, rfl, ?_⟩
            have n0_ := Aside0.mk (Kd.R_elder' (kR_ HO_9.out) (Kd.R_base ho0) hb)
            have n1_ := Aside0.mk (Kd.R_below (kR_ HO_24.out) hb)
            have n2_ := Aside0.mk (Kd.R_lower (Kd.R_new' ho0 (Kd.R_lt (kR_ HO_9.out))) (below_size (by repeat (first | (with_reducible first | exact HB.out | apply below_alloc | apply pw_below_drewN | apply below_drew1 | refine below_set ?_ GE845.out) | exact HB.out))))
            have n3_ := Aside0.mk (blk_below (g := gb845) (o := .cells #[.string ((rd_T63 t840 x26_1).f0), .int .i64 ((rd_T63 t840 x26_1).f1)] 63 (0, 0)) (kB_ BK845.out) hb)
            have n4_ := Aside0.mk (below_step (by repeat (first | (with_reducible first | exact HB.out | apply below_alloc | apply pw_below_drewN | apply below_drew1 | refine below_set ?_ GE845.out) | exact HB.out)) hb)
            clear HO_9
            clear HO_24
            clear BK845
            clear HB
            have HO_9 := n0_
            have HO_24 := n1_
            have HO848 := n2_
            have BK845 := n3_
            have HB := n4_
            clear n0_ n1_ n2_ n3_ n4_
            (try clear hb)
            (try clear hb2)
            (try clear hk)
            (try clear hi)
            (try clear ho0)
            refine hK.out _ _ ⟨(blk_cell BK845.out 0).trans rfl, (blk_cell BK845.out 1).trans rfl⟩ (fun hHeld => ?_)
            clear hK K
            refine norm_ (a' := ?_) ?_ ?_
            rotate_left
            ·show Act.put _ (some 31) _ = _
             simp only [Act.put, List.setIfInBounds_toArray, List.set_cons_zero, List.set_cons_succ, i64_w, i32_w]
             rfl
            refine one_ (i := 4) (N := some 34) (tf_ 5 2) rfl rfl (by kernel_rfl) (by decide) (fun K hK => ?_)
            refine Kd.R_lit_step Kd.string _ 9 ?hg (N := 34) ?hd (xs := ([(rd_T63 t840 x26_1).f0] : List ByteArray)) (inner := [.string ((rd_T63 t840 x26_1).f0)]) (ok := fun _ => True) (okp := fun _ => True) ?hr ?hp (fun _ hk => hk) trivial (Below.refl _ _) (Nat.le_refl _) (by simp) ?_; (case hd => rfl); (case hg => rfl); (case hr => first | (go_simp; done) | (go_simp; rfl)); (case hp => exact (Reps.one (show Kd.M Kd.string _ _ _ ((rd_T63 t840 x26_1).f0) [.string ((rd_T63 t840 x26_1).f0)] from rfl) (Reps.none _ _)))
            intro v850 w42 ho43 hb hg_ hnew_
            clear hg_ hnew_
            (first | rw [← Ny849.out] at ho43 | (simp only [Int.reduceToNat] at ho43; rw [← Ny849.out] at ho43))
            have n0_ := Aside0.mk (Kd.R_elder' (kR_ HO_9.out) (Kd.R_base ho43) hb)
            have n1_ := Aside0.mk (Kd.R_below (kR_ HO_24.out) hb)
            have n2_ := Aside0.mk (Kd.R_elder' (kR_ HO848.out) (Kd.R_base ho43) hb)
            have n3_ := Aside0.mk (Kd.R_lower (Kd.R_new' (Kd.R_new' ho43 (Kd.R_lt (kR_ HO_9.out))) (Kd.R_lt (kR_ HO848.out))) (below_size (by repeat (first | (with_reducible first | exact HB.out | apply below_alloc | apply pw_below_drewN | apply below_drew1 | refine below_set ?_ GE845.out) | exact HB.out))))
            have n4_ := Aside0.mk (blk_below (g := gb845) (o := .cells #[.string ((rd_T63 t840 x26_1).f0), .int .i64 ((rd_T63 t840 x26_1).f1)] 63 (0, 0)) (kB_ BK845.out) hb)
            have n5_ := Aside0.mk (below_step (by repeat (first | (with_reducible first | exact HB.out | apply below_alloc | apply pw_below_drewN | apply below_drew1 | refine below_set ?_ GE845.out) | exact HB.out)) hb)
            clear HO_9
            clear HO_24
            clear HO848
            clear BK845
            clear HB
            have HO_9 := n0_
            have HO_24 := n1_
            have HO848 := n2_
            have HO851 := n3_
            have BK845 := n4_
            have HB := n5_
            clear n0_ n1_ n2_ n3_ n4_ n5_
            clear hb ho43
            refine hK.out _ _ ⟨(blk_cell BK845.out 0).trans rfl, (blk_cell BK845.out 1).trans rfl⟩ (fun hHeld => ?_)
            clear hK K
            refine norm_ (a' := ?_) ?_ ?_
            rotate_left
            ·show Act.put _ (some 34) _ = _
             simp only [Act.put, List.setIfInBounds_toArray, List.set_cons_zero, List.set_cons_succ, i64_w, i32_w]
             rfl
            exact norm_ (by simp only [putAll, Act.put, List.setIfInBounds_toArray, List.set_cons_zero, List.set_cons_succ]) (hCont (v847, v850) _ ⟨hHeld, (by (with_reducible repeat (first | apply Kd.R_alloc | apply Kd.R_drewN | apply Kd.R_drew)); exact Kd.R_mono HO848.out (fun _ hk => ⟨hk.2, hk.1.2⟩)), (by (with_reducible repeat (first | apply Kd.R_alloc | apply Kd.R_drewN | apply Kd.R_drew)); exact Kd.R_mono HO851.out (fun _ hk => ⟨hk.2, hk.1.2⟩)), (kR_ HO_24.out), (by (with_reducible repeat (first | apply Kd.R_alloc | apply Kd.R_drewN | apply Kd.R_drew)); exact Kd.R_mono HO_9.out (fun _ hk => ⟨hk.1.2, hk.2⟩)), (kB_ BK845.out), (by repeat (first | (with_reducible first | exact HB.out | apply below_alloc | apply pw_below_drewN | apply below_drew1 | refine below_set ?_ GE845.out) | exact HB.out))⟩)
           ·skip
            refine Kd.R_lit_step Kd.string _ 9 ?hg (N := 34) ?hd (xs := ([(rd_T63 t840 x26_1).f0] : List ByteArray)) (inner := [.string ((rd_T63 t840 x26_1).f0)]) (ok := fun _ => True) (okp := fun _ => True) ?hr ?hp (fun _ hk => hk) trivial (Below.refl _ _) (Nat.le_refl _) (by simp) ?_; (case hd => rfl); (case hg => rfl); (case hr => first | (go_simp; done) | (go_simp; rfl)); (case hp => exact (Reps.one (show Kd.M Kd.string _ _ _ ((rd_T63 t840 x26_1).f0) [.string ((rd_T63 t840 x26_1).f0)] from rfl) (Reps.none _ _)))
            intro v850 w41 ho42 hb hg_ hnew_
            clear hg_ hnew_
            (first | rw [← Ny849.out] at ho42 | (simp only [Int.reduceToNat] at ho42; rw [← Ny849.out] at ho42))
            have n0_ := Aside0.mk (Kd.R_elder' (kR_ HO_9.out) (Kd.R_base ho42) hb)
            have n1_ := Aside0.mk (Kd.R_below (kR_ HO_24.out) hb)
            have n2_ := Aside0.mk (Kd.R_lower (Kd.R_new' ho42 (Kd.R_lt (kR_ HO_9.out))) (below_size (by repeat (first | (with_reducible first | exact HB.out | apply below_alloc | apply pw_below_drewN | apply below_drew1 | refine below_set ?_ GE845.out) | exact HB.out))))
            have n3_ := Aside0.mk (blk_below (g := gb845) (o := .cells #[.string ((rd_T63 t840 x26_1).f0), .int .i64 ((rd_T63 t840 x26_1).f1)] 63 (0, 0)) (kB_ BK845.out) hb)
            have n4_ := Aside0.mk (below_step (by repeat (first | (with_reducible first | exact HB.out | apply below_alloc | apply pw_below_drewN | apply below_drew1 | refine below_set ?_ GE845.out) | exact HB.out)) hb)
            clear HO_9
            clear HO_24
            clear BK845
            clear HB
            have HO_9 := n0_
            have HO_24 := n1_
            have HO851 := n2_
            have BK845 := n3_
            have HB := n4_
            clear n0_ n1_ n2_ n3_ n4_
            clear hb ho42
            refine hK.out _ _ ⟨(blk_cell BK845.out 0).trans rfl, (blk_cell BK845.out 1).trans rfl⟩ (fun hHeld => ?_)
            clear hK K
            refine norm_ (a' := ?_) ?_ ?_
            rotate_left
            ·show Act.put _ (some 34) _ = _
             simp only [Act.put, List.setIfInBounds_toArray, List.set_cons_zero, List.set_cons_succ, i64_w, i32_w]
             rfl
            refine one_ (i := 1) (N := some 31) (tf_ 5 2) rfl rfl (by kernel_rfl) (by decide) (fun K hK => ?_)
            refine goes_ Tryd.func90 (by kernel_rfl) rfl #[.slice A2 l2.length c2] (by rfl) rfl rfl sl_ ?_
            with_reducible refine (slices_Clone_string.calls _ _ l2 t846 _ ?side1 ?side2 A11.out).mono ?_
            (case side1 => exact kC_ (Kd.C_below HR2.out HB.out))
            (case side2 => exact HC2.out)
            rintro e w43 ⟨v847, rfl, ho0, hb⟩
            refine ⟨_, rfl, ?_⟩
            have n0_ := Aside0.mk (Kd.R_elder' (kR_ HO_9.out) (Kd.R_base ho0) hb)
            have n1_ := Aside0.mk (Kd.R_below (kR_ HO_24.out) hb)
            have n2_ := Aside0.mk (Kd.R_elder' (kR_ HO851.out) (Kd.R_base ho0) hb)
            have n3_ := Aside0.mk (Kd.R_lower (Kd.R_new' (Kd.R_new' ho0 (Kd.R_lt (kR_ HO_9.out))) (Kd.R_lt (kR_ HO851.out))) (below_size (by repeat (first | (with_reducible first | exact HB.out | apply below_alloc | apply pw_below_drewN | apply below_drew1 | refine below_set ?_ GE845.out) | exact HB.out))))
            have n4_ := Aside0.mk (blk_below (g := gb845) (o := .cells #[.string ((rd_T63 t840 x26_1).f0), .int .i64 ((rd_T63 t840 x26_1).f1)] 63 (0, 0)) (kB_ BK845.out) hb)
            have n5_ := Aside0.mk (below_step (by repeat (first | (with_reducible first | exact HB.out | apply below_alloc | apply pw_below_drewN | apply below_drew1 | refine below_set ?_ GE845.out) | exact HB.out)) hb)
            clear HO_9
            clear HO_24
            clear HO851
            clear BK845
            clear HB
            have HO_9 := n0_
            have HO_24 := n1_
            have HO851 := n2_
            have HO848 := n3_
            have BK845 := n4_
            have HB := n5_
            clear n0_ n1_ n2_ n3_ n4_ n5_
            (try clear hb)
            (try clear hb2)
            (try clear hk)
            (try clear hi)
            (try clear ho0)
            refine hK.out _ _ ⟨(blk_cell BK845.out 0).trans rfl, (blk_cell BK845.out 1).trans rfl⟩ (fun hHeld => ?_)
            clear hK K
            refine norm_ (a' := ?_) ?_ ?_
            rotate_left
            ·show Act.put _ (some 31) _ = _
             simp only [Act.put, List.setIfInBounds_toArray, List.set_cons_zero, List.set_cons_succ, i64_w, i32_w]
             rfl
            exact norm_ (by simp only [putAll, Act.put, List.setIfInBounds_toArray, List.set_cons_zero, List.set_cons_succ]) (hCont (v847, v850) _ ⟨hHeld, (by (with_reducible repeat (first | apply Kd.R_alloc | apply Kd.R_drewN | apply Kd.R_drew)); exact Kd.R_mono HO848.out (fun _ hk => ⟨hk.2, hk.1.2⟩)), (by (with_reducible repeat (first | apply Kd.R_alloc | apply Kd.R_drewN | apply Kd.R_drew)); exact Kd.R_mono HO851.out (fun _ hk => ⟨hk.2, hk.1.2⟩)), (kR_ HO_24.out), (by (with_reducible repeat (first | apply Kd.R_alloc | apply Kd.R_drewN | apply Kd.R_drew)); exact Kd.R_mono HO_9.out (fun _ hk => ⟨hk.2, hk.1.2⟩)), (kB_ BK845.out), (by repeat (first | (with_reducible first | exact HB.out | apply below_alloc | apply pw_below_drewN | apply below_drew1 | refine below_set ?_ GE845.out) | exact HB.out))⟩)
          rintro ⟨v847, v850⟩ w44 ⟨hS_, h0_, h1_, h2_, h3_, h4_, h5_⟩
          have n0_ : Aside0 (Kd.R Kd.string 9 w44 w.heap.size (fun k_ => some k_ ≠ (v850 : Value).ownBlock ∧ some k_ ≠ (u9 : Value).ownBlock) v847 t846) := ⟨h0_⟩
          have n1_ : Aside0 (Kd.R Kd.string 9 w44 w.heap.size (fun k_ => some k_ ≠ (v847 : Value).ownBlock ∧ some k_ ≠ (u9 : Value).ownBlock) v850 y849) := ⟨h1_⟩
          have n2_ : Aside0 (Kd.R k63 63 w44 w.heap.size (fun k_ => k_ ≠ gb845) (.slice (some ad844) t840.length co7) t840) := ⟨h2_⟩
          have n3_ : Aside0 (Kd.R Kd.string 9 w44 w.heap.size (fun k_ => some k_ ≠ (v847 : Value).ownBlock ∧ some k_ ≠ (v850 : Value).ownBlock) u9 x9_1) := ⟨h3_⟩
          have n4_ : Aside0 (w44.heap[gb845]? = some (.cells #[.string ((rd_T63 t840 x26_1).f0), .int .i64 ((rd_T63 t840 x26_1).f1)] 63 (0, 0))) := ⟨h4_⟩
          have n5_ : Aside0 (Below w.heap.size w w44) := ⟨h5_⟩
          clear HO_9
          clear HO_24
          clear BK845
          clear HB
          clear h0_ h1_ h2_ h3_ h4_ h5_
          have HO848 := n0_
          have HO851 := n1_
          have HO_24 := n2_
          have HO_9 := n3_
          have BK845 := n4_
          have HB := n5_
          clear n0_ n1_ n2_ n3_ n4_ n5_
          have hHeld : w44.cell? ⟨gb845, 0, none⟩ = some (.string ((rd_T63 t840 x26_1).f0)) ∧ w44.cell? ⟨gb845, 1, none⟩ = some (.int .i64 ((rd_T63 t840 x26_1).f1)) := hS_
          obtain ⟨Ao46, co46, eo46⟩ := Kd.R_slice HO851.out
          (first | subst eo46 | (injection eo46 with f1_ f2_ f3_; have f4_ := f1_.symm; have f5_ := f3_.symm; clear f1_ f2_ f3_; subst f4_; subst f5_))
          refine norm_ (a' := ?_) ?_ ?_
          rotate_left
          ·simp only [putAll, Act.put, List.setIfInBounds_toArray, List.set_cons_zero, List.set_cons_succ]
           rfl
          refine one_ (i := 5) (N := some 35) (tf_ 6 1) rfl rfl (by kernel_rfl) (by decide) (fun K hK => ?_)
          refine Kd.R_append_rows_step Kd.string (w0 := w) w.heap.size (by rfl) (.tmp 31) (.tmp 34) 44 9 (.string ⟨#[]⟩) 16 rfl Tryd.underlying44 info9 rfl (by decide) (by omega) v847 t846 y849 _ _ _ (fun k_ => some k_ ≠ (u9 : Value).ownBlock ∧ some k_ ≠ (.slice Ao46 y849.length co46 : Value).ownBlock) (fun _ => False) rfl rfl ?aO ?aR (fun _ _ h => h) (fun _ h => h.elim) ?aF ?aB ?aS ?aL ?_
          (case aR => repeat (first | exact (Kd.R_reads' HO851.out).2.2 | (with_reducible refine Kd.C_alloc ?_ _) | (with_reducible refine Kd.C_drewN ?_ _) | (with_reducible refine Kd.C_drew ?_)))
          (case aB => exact (by repeat (first | (with_reducible first | exact HB.out | apply below_alloc | apply pw_below_drewN | apply below_drew1 | refine below_set ?_ GE845.out) | exact HB.out)))
          (case aF => exact (fun k_ hk => ⟨Kd.fresh' (Kd.R_lt (kR_ HO_9.out)) k_ hk, Kd.fresh' (Kd.R_lt (kR_ HO851.out)) k_ hk⟩))
          (case aO => exact (by (with_reducible repeat (first | apply Kd.R_alloc | apply Kd.R_drewN | apply Kd.R_drew)); exact Kd.R_mono HO848.out (fun _ hk => ⟨hk.2, hk.1⟩)))
          (case aS => exact (below_size (by repeat (first | (with_reducible first | exact HB.out | apply below_alloc | apply pw_below_drewN | apply below_drew1 | refine below_set ?_ GE845.out) | exact HB.out))))
          (case aL => have := LMc12.out; omega)
          intro v853 w45 ho hb hg hat
          rw [← Ny852.out] at ho
          have n0_ := Aside0.mk (Kd.R_after (ok := (fun k_ => some k_ ≠ (.slice Ao46 y849.length co46 : Value).ownBlock)) (by (with_reducible repeat (first | apply Kd.R_alloc | apply Kd.R_drewN | apply Kd.R_drew)); exact Kd.R_mono HO_9.out (fun _ hk => ⟨hk.2, hk.1⟩)) hg hat)
          have n1_ := Aside0.mk (Kd.R_over' (kR_ HO_24.out) (Kd.R_typed (kR_ HO848.out)) (by decide) hg)
          have n2_ := Aside0.mk (blk_grown (g := gb845) (o := .cells #[.string ((rd_T63 t840 x26_1).f0), .int .i64 ((rd_T63 t840 x26_1).f1)] 63 (0, 0)) (kB_ BK845.out) hg (Kd.R_ne HO848.out BK845.out (by decide)))
          have n3_ := Aside0.mk (Kd.R_after (ok := (fun k_ => some k_ ≠ (u9 : Value).ownBlock)) (by (with_reducible repeat (first | apply Kd.R_alloc | apply Kd.R_drewN | apply Kd.R_drew)); exact Kd.R_mono HO851.out (fun _ hk => ⟨hk.2, hk.1⟩)) hg hat)
          have n4_ := Aside0.mk (hb)
          have n5_ := Aside0.mk (ho)
          clear HO_9
          clear HO_24
          clear BK845
          clear HO851
          clear HB
          clear HO848
          have HO_9 := n0_
          have HO_24 := n1_
          have BK845 := n2_
          have HO851 := n3_
          have HB := n4_
          have HO854 := n5_
          clear n0_ n1_ n2_ n3_ n4_ n5_
          clear ho hb hg hat
          refine hK.out _ _ ⟨(blk_cell BK845.out 0).trans rfl, (blk_cell BK845.out 1).trans rfl⟩ (fun hHeld => ?_)
          clear hK K
          refine norm_ (a' := ?_) ?_ ?_
          rotate_left
          ·show Act.put _ (some 35) _ = _
           simp only [Act.put, List.setIfInBounds_toArray, List.set_cons_zero, List.set_cons_succ, i64_w, i32_w]
           rfl
          refine pure_ (i := 6) (N := some 12) (v := ?_) (a' := ?_) (tf_ 7 0) rfl rfl (by kernel_rfl) (fun _ _ _ h => h) (Or.inl ⟨by rfl, ?_⟩) ?_ ?_
          rotate_left
          ·intro w'
           go_simp
           with_reducible rfl
          rotate_left
          ·simp only [Act.put, List.setIfInBounds_toArray, List.set_cons_zero, List.set_cons_succ, i64_w, i32_w]
           rfl
          refine done_ (by kernel_rfl) ?_
          have hcz47_0 : w45.cell? ⟨gb845, 0, none⟩ = some (.string ((rd_T63 t840 x26_1).f0)) := (blk_cell BK845.out 0).trans rfl
          have hcz47_1 : w45.cell? ⟨gb845, 1, none⟩ = some (.int .i64 ((rd_T63 t840 x26_1).f1)) := (blk_cell BK845.out 1).trans rfl
          have hfz47_0 := blk_frozen BK845.out 0
          have hfz47_1 := blk_frozen BK845.out 1
          try go_wp2_with (first | ((with_reducible refine gate_callee (f := 91) rfl ?_); refine goesL_ (some 40) rfl rfl Tryd.func91 (by kernel_rfl) rfl #[.slice A0 l0.length c0, .int .i64 ((rd_T63 t840 x26_1).f1)] rfl sl_ ?_; (with_reducible refine (impl_fileOf.calls k1 _ _ l0 ((rd_T63 t840 x26_1).f1) t855 false _ ?side1 ?side2 A13.out).mono ?_); (case side1 => exact kC_ (Kd.C_below HR0.out HB.out)); (case side2 => exact HC0.out); rintro e w48 ⟨rfl, hb⟩; refine ⟨_, rfl, ?_⟩; replace HO_9 := Aside0.mk (Kd.R_below (kR_ HO_9.out) hb); replace HO_24 := Aside0.mk (Kd.R_below (kR_ HO_24.out) hb); replace HO851 := Aside0.mk (Kd.R_below (kR_ HO851.out) hb); replace HO854 := Aside0.mk (Kd.R_below (kR_ HO854.out) hb); replace BK845 := Aside0.mk (blk_below (g := gb845) (o := .cells #[.string ((rd_T63 t840 x26_1).f0), .int .i64 ((rd_T63 t840 x26_1).f1)] 63 (0, 0)) (kB_ BK845.out) hb); replace HB := Aside0.mk (below_step (by repeat (first | (with_reducible first | exact HB.out | apply below_alloc | apply pw_below_drewN | apply below_drew1 | refine below_set ?_ GE845.out) | exact HB.out)) hb); (try clear hb); (try clear hk); have hcz49_0 : w48.cell? ⟨gb845, 0, none⟩ = some (.string ((rd_T63 t840 x26_1).f0)) := (blk_cell BK845.out 0).trans rfl; have hcz49_1 : w48.cell? ⟨gb845, 1, none⟩ = some (.int .i64 ((rd_T63 t840 x26_1).f1)) := (blk_cell BK845.out 1).trans rfl; have hfz49_0 := blk_frozen BK845.out 0; have hfz49_1 := blk_frozen BK845.out 1; obtain ⟨Ao50, co50, eo50⟩ := Kd.R_slice HO854.out; subst eo50) | ((with_reducible refine gate_callee (f := 62) rfl ?_); refine goesL_ (some 54) rfl rfl Tryd.func62 (by kernel_rfl) rfl #[.slice A0 l0.length c0, .int .i64 ((rd_T63 t840 x26_1).f1), .slice Ao50 y852.length co50] rfl sl_ ?_; (with_reducible refine (ih k1 (by have := HK1.out; omega) _ _ l0 ((rd_T63 t840 x26_1).f1) _ _ y852 t864 _ ?side1 ?side2 ?side3 ?side4 (GT_on (by repeat (first | (with_reducible first | exact HB.out | apply below_alloc | apply pw_below_drewN | apply below_drew1 | refine below_set ?_ GE845.out) | exact HB.out)) hG) A35.out).mono ?_); (case side1 => exact kC_ (Kd.C_below HR0.out HB.out)); (case side2 => exact HC0.out); (case side3 => exact kC_ ((Kd.R_reads' HO854.out).2.2)); (case side4 => exact (Kd.R_reads' HO854.out).2.1); rintro e w51 ⟨v865, rfl, ho0, hb⟩; refine ⟨_, rfl, ?_⟩; replace HO_24 := Aside0.mk (Kd.R_below (kR_ HO_24.out) hb); have HO866 := Aside0.mk (Kd.R_lower (Kd.R_new' (Kd.R_new' (Kd.R_new' ho0 (Kd.R_lt (kR_ HO_9.out))) (Kd.R_lt (kR_ HO851.out))) (Kd.R_lt (kR_ HO854.out))) (below_size (by repeat (first | (with_reducible first | exact HB.out | apply below_alloc | apply pw_below_drewN | apply below_drew1 | refine below_set ?_ GE845.out) | exact HB.out)))); replace HO_9 := Aside0.mk (Kd.R_elder' (kR_ HO_9.out) (Kd.R_base ho0) hb); replace HO851 := Aside0.mk (Kd.R_elder' (kR_ HO851.out) (Kd.R_base ho0) hb); replace HO854 := Aside0.mk (Kd.R_elder' (kR_ HO854.out) (Kd.R_base ho0) hb); replace BK845 := Aside0.mk (blk_below (g := gb845) (o := .cells #[.string ((rd_T63 t840 x26_1).f0), .int .i64 ((rd_T63 t840 x26_1).f1)] 63 (0, 0)) (kB_ BK845.out) hb); replace HB := Aside0.mk (below_step (by repeat (first | (with_reducible first | exact HB.out | apply below_alloc | apply pw_below_drewN | apply below_drew1 | refine below_set ?_ GE845.out) | exact HB.out)) hb); (try clear hb); (try clear hk); (try clear ho0); obtain ⟨Ao53, co53, eo53⟩ := Kd.R_slice HO866.out; subst eo53) | ((with_reducible refine gate_builtin (b := .append) (xs := #[.tmp 49, .tmp 54]) rfl ?_); at_builtin; refine Kd.R_append_rows Kd.string (w0 := w) w.heap.size rfl (.tmp 49) (.tmp 54) 44 9 (.string ⟨#[]⟩) 16 rfl Tryd.underlying44 info9 rfl (by decide) (by omega) u9 x9_1 t864 _ _ _ (fun k_ => some k_ ≠ (.slice Ao46 y849.length co46 : Value).ownBlock ∧ some k_ ≠ (.slice Ao50 y852.length co50 : Value).ownBlock ∧ some k_ ≠ (.slice Ao53 t864.length co53 : Value).ownBlock) (fun _ => False) rfl rfl ?aO ?aR (fun _ _ h => h) (fun _ h => h.elim) ?aF ?aB ?aS ?aL ?_; (case aR => repeat (first | exact (Kd.R_reads' HO866.out).2.2 | (with_reducible refine Kd.C_alloc ?_ _) | (with_reducible refine Kd.C_drewN ?_ _) | (with_reducible refine Kd.C_drew ?_))); (case aB => exact (by repeat (first | (with_reducible first | exact HB.out | apply below_alloc | apply pw_below_drewN | apply below_drew1 | refine below_set ?_ GE845.out) | exact HB.out))); (case aF => exact (fun k_ hk => ⟨Kd.fresh' (Kd.R_lt (kR_ HO851.out)) k_ hk, Kd.fresh' (Kd.R_lt (kR_ HO854.out)) k_ hk, Kd.fresh' (Kd.R_lt (kR_ HO866.out)) k_ hk⟩)); (case aO => exact (by (with_reducible repeat (first | apply Kd.R_alloc | apply Kd.R_drewN | apply Kd.R_drew)); exact Kd.R_mono HO_9.out (fun _ hk => ⟨hk.1.1, ⟨hk.1.2, hk.2⟩⟩))); (case aS => exact (below_size (by repeat (first | (with_reducible first | exact HB.out | apply below_alloc | apply pw_below_drewN | apply below_drew1 | refine below_set ?_ GE845.out) | exact HB.out)))); (case aL => have := LMc36.out; omega); intro v868 w52 ho hb hg hat; rw [← Ny867.out] at ho; have n0_ := Aside0.mk (Kd.R_over' (kR_ HO_24.out) (Kd.R_typed (kR_ HO_9.out)) (by decide) hg); have n1_ := Aside0.mk (blk_grown (g := gb845) (o := .cells #[.string ((rd_T63 t840 x26_1).f0), .int .i64 ((rd_T63 t840 x26_1).f1)] 63 (0, 0)) (kB_ BK845.out) hg (Kd.R_ne HO_9.out BK845.out (by decide))); have n2_ := Aside0.mk (Kd.R_after (ok := (fun k_ => some k_ ≠ (.slice Ao50 y852.length co50 : Value).ownBlock ∧ some k_ ≠ (.slice Ao53 t864.length co53 : Value).ownBlock)) (by (with_reducible repeat (first | apply Kd.R_alloc | apply Kd.R_drewN | apply Kd.R_drew)); exact Kd.R_mono HO851.out (fun _ hk => ⟨⟨hk.1.2, hk.2⟩, hk.1.1⟩)) hg hat); have n3_ := Aside0.mk (Kd.R_after (ok := (fun k_ => some k_ ≠ (.slice Ao46 y849.length co46 : Value).ownBlock ∧ some k_ ≠ (.slice Ao53 t864.length co53 : Value).ownBlock)) (by (with_reducible repeat (first | apply Kd.R_alloc | apply Kd.R_drewN | apply Kd.R_drew)); exact Kd.R_mono HO854.out (fun _ hk => ⟨⟨hk.1.2, hk.2⟩, hk.1.1⟩)) hg hat); have n4_ := Aside0.mk (Kd.R_after (ok := (fun k_ => some k_ ≠ (.slice Ao46 y849.length co46 : Value).ownBlock ∧ some k_ ≠ (.slice Ao50 y852.length co50 : Value).ownBlock)) (by (with_reducible repeat (first | apply Kd.R_alloc | apply Kd.R_drewN | apply Kd.R_drew)); exact Kd.R_mono HO866.out (fun _ hk => ⟨⟨hk.1.2, hk.2⟩, hk.1.1.2⟩)) hg hat); have n5_ := Aside0.mk (hb); have n6_ := Aside0.mk (ho); clear HO_24; clear BK845; clear HO851; clear HO854; clear HO866; clear HB; clear HO_9; have HO_24 := n0_; have BK845 := n1_; have HO851 := n2_; have HO854 := n3_; have HO866 := n4_; have HB := n5_; have HO869 := n6_; clear n0_ n1_ n2_ n3_ n4_ n5_ n6_; clear ho hb hg hat))
          go_roundg k1
          case measure => have := HK1.out; omega
          case rel => exact ⟨(y867), (wrap64 (x26_1 + 1)), (by first | rfl | (simp; done) | (simp [*]; done)), H', ⟨by have := HK1.out; omega⟩, ⟨by (with_reducible repeat (first | apply Kd.R_alloc | apply Kd.R_drewN | apply Kd.R_drew)); exact Kd.R_mono HO869.out (fun _ hk => trivial)⟩, ⟨by (with_reducible repeat (first | apply Kd.R_alloc | apply Kd.R_drewN | apply Kd.R_drew)); exact Kd.R_mono HO_24.out (fun _ hk => trivial)⟩, ⟨by repeat (first | (with_reducible first | exact HB.out | apply below_alloc | apply pw_below_drewN | apply below_drew1 | refine below_set ?_ GE845.out) | exact HB.out)⟩⟩
         ·rw [if_neg c36] at H
          exact absurd H (by simp)
       ·rw [if_neg c12] at H
        exact absurd H (by simp)
      ·rw [if_neg c10] at H
       exact absurd H (by simp)
     ·rw [if_neg c9] at H
      exact absurd H (by simp)
    ·rw [if_neg c8] at H
     have c8b0 : decide (x26_1 < (t840.length : Int)) = false := decide_eq_false c8
     clear c8
     obtain rfl := Option.some.inj H
     go_wp2
     go_ret
     exact ⟨_, er_, by (with_reducible repeat (first | apply Kd.R_alloc | apply Kd.R_drewN | apply Kd.R_drew)); exact HO_9.out, hb_⟩
/-! ### impl_AllFiles: function 34 -/
def impl_AllFiles.f (k : Nat) (l0 : List (S58)) (a1 : Int) : Option (List ByteArray) := (impl_StoreValid.f k l0).bind fun t870 => (if t870 = true then ((impl_filesBelow.f k l0 a1 ([] : List ByteArray)).bind fun t871 => (some t871)) else (some ([] : List ByteArray)))
theorem impl_AllFiles.mono : ∀ a0 a1 k, LeO (impl_AllFiles.f k a0 a1) (impl_AllFiles.f (k + 1) a0 a1) := by
 intro a0 a1 k
 unfold impl_AllFiles.f
 repeat' first
   | (with_reducible exact impl_StoreValid.mono _ _)
   | (with_reducible exact impl_filesBelow.mono _ _ _ _)
   | (with_reducible exact LeO.refl _)
   | (with_reducible exact LeO.none _)
   | (with_reducible refine LeO.ite ?_ ?_)
   | (with_reducible refine LeO.bind ?_ (fun _ => ?_))
   | exact impl_StoreValid.mono _ _
   | exact impl_filesBelow.mono _ _ _ _
   | exact LeO.none _
   | refine LeO.ite ?_ ?_
   | refine LeO.bind ?_ (fun _ => ?_)
set_option maxHeartbeats 8000000 in
set_option maxRecDepth 100000 in
theorem impl_AllFiles.calls (k : Nat) (A0 : Option Addr) (c0 : Nat) (l0 : List (S58)) (a1 : Int) (r : List ByteArray) (w : World) (hr0 : Kd.C k58 w A0 l0.length l0) (hc0 : l0.length ≤ c0) (hG : GT w) (h : impl_AllFiles.f k l0 a1 = some r) :
  Calls Tryd.prog 34 #[.slice A0 l0.length c0, .int .i64 a1] w fun e w' => ∃ v0_ : Value, e = .returned (v0_) ∧ Kd.R Kd.string 9 w' w.heap.size (fun _ => True) v0_ r ∧ Below w.heap.size w w' := by
 have HR0 := Aside0.mk hr0
 have HC0 := Aside0.mk hc0
 clear hr0 hc0
 have HB := Aside0.mk (Below.refl w.heap.size w)
 have H : ((impl_StoreValid.f k l0).bind fun t870 => (if t870 = true then ((impl_filesBelow.f k l0 a1 ([] : List ByteArray)).bind fun t871 => (some t871)) else (some ([] : List ByteArray)))) = some r := h
 clear h
 replace H := Option.bind_eq_some_iff.mp H
 obtain ⟨t870, A30, H⟩ := H
 replace H : (if t870 = true then ((impl_filesBelow.f k l0 a1 ([] : List ByteArray)).bind fun t871 => (some t871)) else (some ([] : List ByteArray))) = some r := H
 have A3 := Aside0.mk A30
 clear A30
 by_cases c4 : t870 = true
 ·subst c4
  have H1 : ((impl_filesBelow.f k l0 a1 ([] : List ByteArray)).bind fun t871 => (some t871)) = some r := by rw [if_pos rfl] at H; exact H
  clear H
  have H := H1
  clear H1
  replace H := Option.bind_eq_some_iff.mp H
  obtain ⟨t871, A50, H⟩ := H
  replace H : (some t871) = some r := H
  have A5 := Aside0.mk A50
  clear A50
  obtain rfl := Option.some.inj H
  go_enter Tryd.func34, Tryd.ntmps34
  go_wp2_with (first | ((with_reducible refine gate_callee (f := 29) rfl ?_); refine goesL_ (some 6) rfl rfl Tryd.func29 (by kernel_rfl) rfl #[.slice A0 l0.length c0] rfl sl_ ?_; (with_reducible refine (impl_StoreValid.calls k _ _ l0 true _ ?side1 ?side2 A3.out).mono ?_); (case side1 => exact kC_ HR0.out); (case side2 => exact HC0.out); rintro e w6 ⟨rfl, hb⟩; refine ⟨_, rfl, ?_⟩; replace HB := Aside0.mk (below_step hb_ hb); (try clear hb)) | ((with_reducible refine gate_callee (f := 62) rfl ?_); refine goesL_ (some 10) rfl rfl Tryd.func62 (by kernel_rfl) rfl #[.slice A0 l0.length c0, .int .i64 a1, .slice none 0 0] rfl sl_ ?_; (refine (impl_filesBelow.calls k _ _ l0 a1 _ _ ([] : List ByteArray) t871 _ ?side1 ?side2 ?side3 ?side4 (GT_on hb_ hG) A5.out).mono ?_); (case side1 => exact kC_ (Kd.C_below HR0.out HB.out)); (case side2 => exact HC0.out); (case side3 => exact Kd.C_nil _ _); (case side4 => exact Nat.le_refl _); rintro e w7 ⟨v872, rfl, ho0, hb⟩; refine ⟨_, rfl, ?_⟩; have HO873 := Aside0.mk (Kd.R_lower ho0 (below_size hb_)); replace HB := Aside0.mk (below_step hb_ hb); (try clear hb); (try clear ho0)))
  go_ret
  exact ⟨_, er_, by (with_reducible repeat (first | apply Kd.R_alloc | apply Kd.R_drewN | apply Kd.R_drew)); exact HO873.out, hb_⟩
 ·replace c4 := Bool.eq_false_iff.mpr c4
  subst c4
  have H1 : (some ([] : List ByteArray)) = some r := by rw [if_neg (show ¬ (false = true) by decide)] at H; exact H
  clear H
  have H := H1
  clear H1
  obtain rfl := Option.some.inj H
  go_enter Tryd.func34, Tryd.ntmps34
  go_wp2_with (first | ((with_reducible refine gate_callee (f := 29) rfl ?_); refine goesL_ (some 6) rfl rfl Tryd.func29 (by kernel_rfl) rfl #[.slice A0 l0.length c0] rfl sl_ ?_; (with_reducible refine (impl_StoreValid.calls k _ _ l0 false _ ?side1 ?side2 A3.out).mono ?_); (case side1 => exact kC_ HR0.out); (case side2 => exact HC0.out); rintro e w8 ⟨rfl, hb⟩; refine ⟨_, rfl, ?_⟩; replace HB := Aside0.mk (below_step hb_ hb); (try clear hb)))
  go_ret
  exact ⟨_, er_, by first | exact Kd.R_nil _ _ _ _ _ | exact Kd.N_nil _ _ _ _ _ | exact Kd.V_nil _ _ _ _ _ | exact Kd.Q_nil _ _ _ _ _ | exact Kd.S_nil _ _ _ _ _, hb_⟩
end Go.Proofs.YtjgbidklkhohfaaDoor.P
