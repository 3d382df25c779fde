-- The functions of the seat as plain Lean functions, made by the kit's print.py for all laws at once. Not trusted: Lean checks it.
import Derived.Test.YtcbmkonigclceaaPx0
import Derived.Test.YtcbmkonigclceaaPx2
namespace Go.Proofs.Ytcbmkonigclceaa.P
open Go.RowKit Go.Proofs.YtcbmkonigclceaaW.PrintWords Go.Proofs.YtcbmkonigclceaaW.PrintLast Go.Proofs.YtcbmkonigclceaaW.PrintMore
attribute [local go_sem] max2_int min2_int max_two min_two max_three min_three max_four min_four   -- for this text's walks alone
set_option linter.unusedVariables false
set_option linter.unusedSimpArgs false
/-! ### spec_PutEntry: function 116 -/
mutual
def spec_PutEntry.j1 : Nat → List (S109) → Int → ByteArray → Int → Option ((List (S109)) × Bool)
 | 0, _, _, _, _ => none
 | k + 1, x0, x6, x999000, x999001 => if 0 ≤ x6 then (if x6 ≤ (x0.length : Int) then ((some (x0.drop (x6 : Int).toNat : List (S109))).bind fun y1004 => (if x6 < (x0.length : Int) then (spec_PutEntry.j2 k x0 x6 y1004 (((rd_T109 x0 x6).f0).toList == x999000.toList) x999000 x999001) else (spec_PutEntry.j2 k x0 x6 y1004 false x999000 x999001))) else (none)) else (none)
def spec_PutEntry.j2 : Nat → List (S109) → Int → List (S109) → Bool → ByteArray → Int → Option ((List (S109)) × Bool)
 | 0, _, _, _, _, _, _ => none
 | k + 1, x0, x6, x7, x45, x999000, x999001 => if x45 = true then (if 0 ≤ (wrap64 (x6 + 1)) then (if (wrap64 (x6 + 1)) ≤ (x0.length : Int) then (spec_PutEntry.j3 k x0 x6 (x0.drop ((wrap64 (x6 + 1)) : Int).toNat) x999000 x999001) else (none)) else (none)) else (spec_PutEntry.j3 k x0 x6 x7 x999000 x999001)
def spec_PutEntry.j3 : Nat → List (S109) → Int → List (S109) → ByteArray → Int → Option ((List (S109)) × Bool)
 | 0, _, _, _, _, _ => none
 | k + 1, x0, x6, x7, x999000, x999001 => (some (([] : List (S109)) : List (S109))).bind fun y1015 => (if 0 ≤ x6 then (if x6 ≤ (x0.length : Int) then ((some (x0.take (x6 : Int).toNat : List (S109))).bind fun y1018 => (if y1015.length + y1018.length < 5864062014805 then ((some (y1015 ++ y1018 : List (S109))).bind fun y1023 => ((some (([(⟨x999000, x999001⟩ : S109)] : List (S109)) : List (S109))).bind fun y1026 => (if y1023.length + y1026.length < 5864062014805 then ((some (y1023 ++ y1026 : List (S109))).bind fun y1029 => (if y1029.length + x7.length < 5864062014805 then ((some (y1029 ++ x7 : List (S109))).bind fun y1032 => ((spec_EntriesValid.f k y1032).bind fun t1035 => (if t1035 = true then (some (y1032, true)) else ((some (([] : List (S109)) : List (S109))).bind fun y1036 => (if y1036.length + x0.length < 5864062014805 then (some ((y1036 ++ x0), false)) else (none)))))) else (none))) else (none)))) else (none))) else (none)) else (none))
def spec_PutEntry.l0 : Nat → List (S109) → Int → ByteArray → Int → Option ((List (S109)) × Bool)
 | 0, _, _, _, _ => none
 | k + 1, x0, x6, x999000, x999001 => if x6 < (x0.length : Int) then (if 0 ≤ x6 then (if (Op.bytesLess (((rd_T109 x0 x6).f0).toList) x999000.toList) = true then (spec_PutEntry.l0 k x0 (wrap64 (x6 + 1)) x999000 x999001) else (spec_PutEntry.j1 k x0 x6 x999000 x999001)) else (none)) else (spec_PutEntry.j1 k x0 x6 x999000 x999001)
end
def spec_PutEntry.f (k : Nat) (l0 : List (S109)) (a1_0 : ByteArray) (a1_1 : Int) : Option ((List (S109)) × Bool) := (spec_EntriesValid.f k l0).bind fun t999 => (if t999 = true then (spec_PutEntry.l0 k l0 0 a1_0 a1_1) else (some ((([] : List (S109))), false)))
def spec_PutEntry.T4 : Bool × List (List Nat × List Nat) := (true, [([], []), ([], []), ([1], [1]), ([0, 2], [0, 2]), ([3], [3]), ([4], [4]), ([4], [4]), ([5, 6, 4], [4, 5, 6]), ([7, 4], [4, 7]), ([8, 4], [4, 8]), ([4], [4]), ([10, 4], [4, 10]), ([9, 11, 4], [4, 9, 11]), ([4, 12], [4, 12])])
def spec_PutEntry.B4 : List Nat := [0, 0, 2, 7, 15, 31, 31, 127, 255, 511, 31, 1055, 4095, 8191]
theorem spec_PutEntry.tab4 : rtab .any (opsOf Try.f116 4) = spec_PutEntry.T4 := by kernel_rfl
theorem spec_PutEntry.bits4 : waitsOk spec_PutEntry.T4.2 spec_PutEntry.B4 = true := by kernel_rfl
def spec_PutEntry.T7 : Bool × List (List Nat × List Nat) := (true, [([], []), ([], []), ([1], [1]), ([0, 2], [0, 2]), ([3], [3]), ([4], [4]), ([4], [4]), ([5, 6, 4], [4, 5, 6]), ([7, 4], [4, 7]), ([8, 4], [4, 8]), ([4], [4]), ([10, 4], [4, 10]), ([9, 11, 4], [4, 9, 11]), ([4, 12], [4, 12])])
def spec_PutEntry.B7 : List Nat := [0, 0, 2, 7, 15, 31, 31, 127, 255, 511, 31, 1055, 4095, 8191]
theorem spec_PutEntry.tab7 : rtab .any (opsOf Try.f116 7) = spec_PutEntry.T7 := by kernel_rfl
theorem spec_PutEntry.bits7 : waitsOk spec_PutEntry.T7.2 spec_PutEntry.B7 = true := by kernel_rfl
def spec_PutEntry.T9 : Bool × List (List Nat × List Nat) := (true, [([], []), ([], []), ([], []), ([1, 2], [1, 2]), ([0, 3], [0, 3]), ([], []), ([5], [5]), ([4, 6, 4], [4, 6]), ([], []), ([7, 8, 7], [7, 8]), ([9, 9, 0, 1, 2, 3, 4, 5, 6, 7, 8, 9], [9])])
def spec_PutEntry.B9 : List Nat := [0, 0, 0, 6, 15, 0, 32, 127, 0, 511, 1023]
theorem spec_PutEntry.tab9 : rtab .any (opsOf Try.f116 9) = spec_PutEntry.T9 := by kernel_rfl
theorem spec_PutEntry.bits9 : waitsOk spec_PutEntry.T9.2 spec_PutEntry.B9 = true := by kernel_rfl
set_option maxHeartbeats 8000000 in
set_option maxRecDepth 100000 in
theorem spec_PutEntry.calls (k : Nat) (P0_ : Nat → Prop) (A0 : Option Addr) (c0 : Nat) (l0 : List (S109)) (a1_0 : ByteArray) (a1_1 : Int) (r1 : List (S109)) (r2 : Bool) (w : World) (hs0 : Kd.V k109 109 w w.heap.size (fun k_ => P0_ k_) (.slice A0 l0.length c0) l0) (h : spec_PutEntry.f k l0 a1_0 a1_1 = some (r1, r2)) :
  Calls Try.prog 116 #[.slice A0 l0.length c0, .agg #[.string a1_0, .int .i64 a1_1]] w fun e w' => ∃ v0_ : Value, e = .returned (.tuple #[v0_, .bool r2]) ∧ Kd.R k109 109 w' w.heap.size (fun k_ => (w.heap.size ≤ k_)) v0_ r1 ∧ Below w.heap.size w w' := by
 have hu109 := Try.underlying109
 have HO0 := Aside0.mk (show Kd.V k109 109 w w.heap.size (fun k_ => (P0_ k_ ∨ w.heap.size ≤ k_)) (.slice A0 l0.length c0) l0 from Kd.V_mono hs0 (fun k_ hk => .inl hk))
 have HB := Aside0.mk (Below.refl w.heap.size w)
 have H : ((spec_EntriesValid.f k l0).bind fun t999 => (if t999 = true then (spec_PutEntry.l0 k l0 0 a1_0 a1_1) else (some ((([] : List (S109))), false)))) = some (r1, r2) := h
 clear h
 replace H := Option.bind_eq_some_iff.mp H
 obtain ⟨t999, A30, H⟩ := H
 replace H : (if t999 = true then (spec_PutEntry.l0 k l0 0 a1_0 a1_1) else (some ((([] : List (S109))), false))) = some (r1, r2) := H
 have A3 := Aside0.mk A30
 clear A30
 by_cases c4 : t999 = true
 ·subst c4
  have H1 : (spec_PutEntry.l0 k l0 0 a1_0 a1_1) = some (r1, r2) := by rw [if_pos rfl] at H; exact H
  clear H
  have H := H1
  clear H1
  have HC5 := Aside0.mk H
  clear H
  go_enter Try.func116, Try.ntmps116
  go_upto_block 0 with (first | ((with_reducible refine gate_dst (N := 3) rfl ?_); refine box_event ?hg (N := 3) ?hd (cs := #[.string a1_0, .int .i64 a1_1]) (t := 109) ?hr ?_; (case hd => rfl); (case hg => rfl); (case hr => first | (go_simp; done) | (go_simp; rfl)); intro gb998 hg w6 hbox hb; have n0_ := Aside0.mk (Kd.V_below (Kd.V_elderB (kV_ HO0.out) gb998 (Nat.le_of_eq hg.symm)) hb); have n1_ := Aside0.mk (below_step hb_ hb); have n2_ := Aside0.mk (hbox); have n3_ := Aside0.mk ((by rw [hg]; exact (below_size hb_) : w.heap.size ≤ gb998)); have n4_ := Aside0.mk ((by rw [hg]; exact (below_size hb_) : w.heap.size ≤ gb998)); clear HO0; clear HB; have HO0 := n0_; have HB := n1_; have BK998 := n2_; have GW998 := n3_; have GE998 := n4_; clear n0_ n1_ n2_ n3_ n4_; clear hb hbox hg) | ((with_reducible refine gate_callee (f := 103) rfl ?_); refine gl_ (some 10) Try.func103 #[.slice A0 l0.length c0] ?_; (with_reducible refine (spec_EntriesValid.calls k _ _ l0 true _ ?side1 ?side2 A3.out).mono ?_); (case side1 => exact kC_ ((Kd.V_reads' HO0.out).2.2)); (case side2 => exact (Kd.V_reads' HO0.out).2.1); rintro e w7 ⟨rfl, hb⟩; refine ⟨_, rfl, ?_⟩; have n0_ := Aside0.mk (Kd.V_below (kV_ HO0.out) hb); have n1_ := Aside0.mk (blk_below (g := gb998) (o := .cells #[.string a1_0, .int .i64 a1_1] 109 (0, 0)) (kB_ BK998.out) hb); have n2_ := Aside0.mk (below_step (hs_ GE998.out) hb); clear HO0; clear BK998; clear HB; have HO0 := n0_; have BK998 := n1_; have HB := n2_; clear n0_ n1_ n2_; (try clear hb)))
  (try simp only [Act.put, List.setIfInBounds_toArray, List.set_cons_zero, List.set_cons_succ])
  go_cut [6] (fun v6 wc => ∃ (kq : Nat) (x6_4 : Int), v6 = .int .i64 x6_4 ∧ Aside0 (spec_PutEntry.j1 kq l0 x6_4 a1_0 a1_1 = some (r1, r2)) ∧ Aside0 (kq ≤ k) ∧ Aside0 (Kd.V k109 109 wc w.heap.size (fun k_ => (P0_ k_ ∨ w.heap.size ≤ k_) ∧ k_ ≠ gb998) (.slice A0 l0.length c0) l0) ∧ Aside0 (wc.heap[gb998]? = some (.cells #[.string a1_0, .int .i64 a1_1] 109 (0, 0))) ∧ Aside0 (Below w.heap.size w wc))
  case first =>
   have H := HC5.out
   clear HC5
   have H' := Aside0.mk H
   clear H
   go_wp2
   go_loopg [6] k (fun kq v6 w' => ∃ (x6_1 : Int), v6 = .int .i64 x6_1 ∧ Aside0 (spec_PutEntry.l0 kq l0 x6_1 a1_0 a1_1 = some (r1, r2)) ∧ Aside0 (kq ≤ k) ∧ Aside0 (Kd.V k109 109 w' w.heap.size (fun k_ => (P0_ k_ ∨ w.heap.size ≤ k_) ∧ k_ ≠ gb998) (.slice A0 l0.length c0) l0) ∧ Aside0 (w'.heap[gb998]? = some (.cells #[.string a1_0, .int .i64 a1_1] 109 (0, 0))) ∧ Aside0 (Below w.heap.size w w'))
   case atStart => exact ⟨(0), rs_, H', ⟨Nat.le_refl _⟩, ⟨by refine kV_ ?_; exact HO0.out⟩, ⟨by (with_reducible repeat (first | refine blk_drewN ?_ _ | refine blk_drew ?_ | refine blk_alloc ?_ _)); exact BK998.out⟩, ⟨by repeat (first | (with_reducible first | exact HB.out | apply below_alloc | apply pw_below_drewN | apply below_drew1 | refine below_set ?_ GE998.out) | exact HB.out)⟩⟩
   case round =>
    clear H'
    try clear c1
    try clear p2
    try clear c4
    obtain ⟨x6_1, rfl, HA, HK1, HO_0, BK998, HB⟩ := hrel
    cases gk with
    | zero => exact absurd HA.out (by simp [spec_PutEntry.l0])
    | succ k1 =>
     have H := HA.out
     clear HA
     simp only [spec_PutEntry.l0] at H
     by_cases c8 : x6_1 < (l0.length : Int)
     ·rw [if_pos c8] at H
      have c8b0 : decide (x6_1 < (l0.length : Int)) = true := decide_eq_true c8
      clear c8
      (first | rw [c8b0] | (simp only [i64_w, i32_w]; rw [c8b0]) | skip)
      by_cases c9 : 0 ≤ x6_1; rotate_left
      ·rw [if_neg c9] at H; exact absurd H (by simp)
      rw [if_pos c9] at H
      have c9b0 : decide (0 ≤ x6_1) = true := decide_eq_true c9
      clear c9
      by_cases c10 : (Op.bytesLess (((rd_T109 l0 x6_1).f0).toList) a1_0.toList) = true
      ·rw [if_pos c10] at H
       have c10b0 : (Op.bytesLess (((rd_T109 l0 x6_1).f0).toList) a1_0.toList) = true := c10
       clear c10
       have H' := Aside0.mk H
       clear H
       try go_wp2
       replace HO_0 := Aside0.mk (Kd.V_drew HO_0.out)
       replace BK998 := Aside0.mk (blk_drew BK998.out)
       replace HB := Aside0.mk (below_drew1 HB.out)
       have p1003 : 0 ≤ (x6_1 : Int) := dt_
       have q1003 : x6_1 < (l0.length : Int) := dt_
       obtain ⟨ad1003, e1003, hx1003_0, hx1003_1⟩ := at_T109 (Kd.V_reads' HO_0.out).2.2 x6_1 p1003 q1003
       cases e1003
       replace p1003 := eq_true p1003
       replace q1003 := eq_true q1003
       refine start_ (n := 14) (S := fun w' => w'.cell? ⟨gb998, 0, none⟩ = some (.string a1_0) ∧ w'.cell? ⟨gb998, 1, none⟩ = some (.int .i64 a1_1) ∧ w'.cell? (ad1003.add ((x6_1).toNat * 2)) = some (.string ((rd_T109 l0 x6_1).f0)) ∧ w'.cell? ⟨(ad1003.add ((x6_1).toNat * 2)).block, (ad1003.add ((x6_1).toNat * 2)).off + 1, none⟩ = some (.int .i64 ((rd_T109 l0 x6_1).f1))) (ds := []) (tf_ 0 14) (by kernel_rfl) rfl rfl ⟨(blk_cell BK998.out 0).trans rfl, (blk_cell BK998.out 1).trans rfl, hx1003_0, hx1003_1⟩ (fun hHeld => ?_); refine with_tabW spec_PutEntry.tab4 spec_PutEntry.bits4 (fun HT_ HW_ => ?_)
       generalize wr.drew = w11 at HO_0 BK998 HB hx1003_0 hx1003_1 hHeld ⊢
       refine paA_ 0 13 1 13 ?_
       refine paA_ 1 14 2 12 ?_
       refine paA_ 2 15 3 11 ?_
       refine paA_ 3 16 4 10 ?_
       refine paA_ 4 17 5 9 ?_
       refine paA_ 5 18 6 8 ?_
       refine paA_ 6 19 7 7 ?_
       refine paA_ 7 20 8 6 ?_
       refine paA_ 8 21 9 5 ?_
       refine pa_ (i := 10) (N := some 23) (tb_ 14 1535) ?_
       refine ta4_ (i := 9) (N := some 22) (tf_ 11 3) ?_
       refine ta4_ (i := 11) (N := some 24) (tf_ 12 2) ?_
       refine paA_ 12 25 13 1 ?_
       refine paA_ 13 26 14 0 ?_
       refine done_ (done_of HT_.out (by kernel_rfl)) ?_
       try go_wp2
       go_roundg k1
       case measure => have := HK1.out; omega
       case rel => exact ⟨(wrap64 (x6_1 + 1)), rs_, H', ⟨by have := HK1.out; omega⟩, ⟨by refine kV_ ?_; exact HO_0.out⟩, ⟨by (with_reducible repeat (first | refine blk_drewN ?_ _ | refine blk_drew ?_ | refine blk_alloc ?_ _)); exact BK998.out⟩, ⟨by repeat (first | (with_reducible first | exact HB.out | apply below_alloc | apply pw_below_drewN | apply below_drew1 | refine below_set ?_ GE998.out) | exact HB.out)⟩⟩
      ·rw [if_neg c10] at H
       have c10b0 : (Op.bytesLess (((rd_T109 l0 x6_1).f0).toList) a1_0.toList) = false := by simpa using c10
       clear c10
       have H' := Aside0.mk H
       clear H
       try go_wp2
       replace HO_0 := Aside0.mk (Kd.V_drew HO_0.out)
       replace BK998 := Aside0.mk (blk_drew BK998.out)
       replace HB := Aside0.mk (below_drew1 HB.out)
       have p1003 : 0 ≤ (x6_1 : Int) := dt_
       have q1003 : x6_1 < (l0.length : Int) := dt_
       obtain ⟨ad1003, e1003, hx1003_0, hx1003_1⟩ := at_T109 (Kd.V_reads' HO_0.out).2.2 x6_1 p1003 q1003
       cases e1003
       replace p1003 := eq_true p1003
       replace q1003 := eq_true q1003
       refine start_ (n := 14) (S := fun w' => w'.cell? ⟨gb998, 0, none⟩ = some (.string a1_0) ∧ w'.cell? ⟨gb998, 1, none⟩ = some (.int .i64 a1_1) ∧ w'.cell? (ad1003.add ((x6_1).toNat * 2)) = some (.string ((rd_T109 l0 x6_1).f0)) ∧ w'.cell? ⟨(ad1003.add ((x6_1).toNat * 2)).block, (ad1003.add ((x6_1).toNat * 2)).off + 1, none⟩ = some (.int .i64 ((rd_T109 l0 x6_1).f1))) (ds := []) (tf_ 0 14) (by kernel_rfl) rfl rfl ⟨(blk_cell BK998.out 0).trans rfl, (blk_cell BK998.out 1).trans rfl, hx1003_0, hx1003_1⟩ (fun hHeld => ?_); refine with_tabW spec_PutEntry.tab4 spec_PutEntry.bits4 (fun HT_ HW_ => ?_)
       generalize wr.drew = w12 at HO_0 BK998 HB hx1003_0 hx1003_1 hHeld ⊢
       refine paA_ 0 13 1 13 ?_
       refine paA_ 1 14 2 12 ?_
       refine paA_ 2 15 3 11 ?_
       refine paA_ 3 16 4 10 ?_
       refine paA_ 4 17 5 9 ?_
       refine paA_ 5 18 6 8 ?_
       refine paA_ 6 19 7 7 ?_
       refine paA_ 7 20 8 6 ?_
       refine paA_ 8 21 9 5 ?_
       refine pa_ (i := 10) (N := some 23) (tb_ 14 1535) ?_
       refine ta4_ (i := 9) (N := some 22) (tf_ 11 3) ?_
       refine ta4_ (i := 11) (N := some 24) (tf_ 12 2) ?_
       refine paA_ 12 25 13 1 ?_
       refine paA_ 13 26 14 0 ?_
       refine done_ (done_of HT_.out (by kernel_rfl)) ?_
       try go_wp2
       go_meet
       case rel => exact ⟨_, (x6_1), rs_, H', ⟨by have := HK1.out; first | omega | exact Nat.le_refl _⟩, ⟨by refine kV_ ?_; exact HO_0.out⟩, ⟨by (with_reducible repeat (first | refine blk_drewN ?_ _ | refine blk_drew ?_ | refine blk_alloc ?_ _)); exact BK998.out⟩, ⟨by repeat (first | (with_reducible first | exact HB.out | apply below_alloc | apply pw_below_drewN | apply below_drew1 | refine below_set ?_ GE998.out) | exact HB.out)⟩⟩
     ·rw [if_neg c8] at H
      have c8b0 : decide (x6_1 < (l0.length : Int)) = false := decide_eq_false c8
      clear c8
      (first | rw [c8b0] | (simp only [i64_w, i32_w]; rw [c8b0]) | skip)
      have H' := Aside0.mk H
      clear H
      try go_wp2
      replace HO_0 := Aside0.mk (Kd.V_drew HO_0.out)
      replace BK998 := Aside0.mk (blk_drew BK998.out)
      replace HB := Aside0.mk (below_drew1 HB.out)
      refine start_ (n := 14) (S := fun w' => True) (ds := []) (tf_ 0 14) (by kernel_rfl) rfl rfl trivial (fun hHeld => ?_); refine with_tabW spec_PutEntry.tab4 spec_PutEntry.bits4 (fun HT_ HW_ => ?_)
      generalize wr.drew = w13 at HO_0 BK998 HB hHeld ⊢
      refine paA_ 0 13 1 13 ?_
      refine paA_ 1 14 2 12 ?_
      refine paA_ 2 15 3 11 ?_
      refine paA_ 3 16 4 10 ?_
      refine paA_ 4 17 5 9 ?_
      refine pnA_ 5 18 6 8 ?_
      refine pnA_ 6 19 7 7 ?_
      refine pnA_ 7 20 8 6 ?_
      refine pnA_ 8 21 9 5 ?_
      refine pnA_ 9 22 10 4 ?_
      refine pnA_ 10 23 11 3 ?_
      refine pnA_ 11 24 12 2 ?_
      refine pnA_ 12 25 13 1 ?_
      refine paA_ 13 26 14 0 ?_
      refine done_ (done_of HT_.out (by kernel_rfl)) ?_
      try go_wp2
      go_meet
      case rel => exact ⟨_, (x6_1), rs_, H', ⟨by have := HK1.out; first | omega | exact Nat.le_refl _⟩, ⟨by refine kV_ ?_; exact HO_0.out⟩, ⟨by (with_reducible repeat (first | refine blk_drewN ?_ _ | refine blk_drew ?_ | refine blk_alloc ?_ _)); exact BK998.out⟩, ⟨by repeat (first | (with_reducible first | exact HB.out | apply below_alloc | apply pw_below_drewN | apply below_drew1 | refine below_set ?_ GE998.out) | exact HB.out)⟩⟩
  case rest =>
   clear HC5
   try clear c1
   try clear p1
   try clear q1
   try clear hx1
   try clear p2
   try clear c4
   try clear p6
   try clear c8
   try clear c8b0
   try clear c9
   try clear c9b0
   try clear c10
   try clear c10b0
   try clear p10
   try clear q10
   try clear hx10
   try clear c11
   try clear hx1003_0
   try clear hx1003_1
   try clear p1003
   try clear p2
   try clear q1003
   obtain ⟨kq, x6_4, rfl, HA, HJ4, HO_0, BK998, HB⟩ := hcut
   cases kq with
   | zero => exact absurd HA.out (by simp [spec_PutEntry.j1])
   | succ kj4 =>
    have H := HA.out
    clear HA
    simp only [spec_PutEntry.j1] at H
    by_cases c14 : 0 ≤ x6_4; rotate_left
    ·rw [if_neg c14] at H; exact absurd H (by simp)
    rw [if_pos c14] at H
    have c14b0 := eq_true c14
    have c14b1 : decide (0 ≤ x6_4) = true := decide_eq_true c14
    clear c14
    by_cases c15 : x6_4 ≤ (l0.length : Int); rotate_left
    ·rw [if_neg c15] at H; exact absurd H (by simp)
    rw [if_pos c15] at H
    have c15b0 := eq_true c15
    have c15b1 : decide (x6_4 ≤ (l0.length : Int)) = true := decide_eq_true c15
    clear c15
    obtain ⟨y1004, hy1004⟩ : ∃ y_ : List (S109), y_ = (l0.drop (x6_4 : Int).toNat) := ⟨_, rfl⟩
    replace H : (if x6_4 < (l0.length : Int) then (spec_PutEntry.j2 kj4 l0 x6_4 y1004 (((rd_T109 l0 x6_4).f0).toList == a1_0.toList) a1_0 a1_1) else (spec_PutEntry.j2 kj4 l0 x6_4 y1004 false a1_0 a1_1)) = some (r1, r2) := hq_ hy1004 H
    have Ny1004 := Aside0.mk hy1004
    clear hy1004
    have HC16 := Aside0.mk H
    clear H
    have q17 : (x6_4 : Int) ≤ ((l0.length : Int) : Int) := dt_
    obtain ⟨i017, hi017, _, hsz17, _⟩ := info_parts info109
    have hroom17 : l0.length ≤ c0 := (Kd.V_reads' HO_0.out).2.1
    have hC17 : Kd.F k109 _ _ A0 l0.length l0 := (Kd.V_at (base := w.heap.size) HO_0.out).2.2
    have q017 : (0 : Int) ≤ (x6_4 : Int) := dt_
    have hcut17 := cut_from (P := Try.prog) 102 109 .i64 Try.underlying102 hi017 2 hsz17 A0 l0.length c0 x6_4 q017 q17
    have hr17 := Kd.F_cut (m := (x6_4 : Int).toNat) (c := c0) hC17 (by omega) hroom17
    obtain ⟨A17, hA17⟩ : ∃ A1, A1 = (if c0 = (x6_4 : Int).toNat then A0 else (A0 : Option Addr).map (·.add ((x6_4 : Int).toNat * 2))) := ⟨_, rfl⟩
    obtain ⟨c17, hc17⟩ : ∃ c1, c1 = c0 - (x6_4 : Int).toNat := ⟨_, rfl⟩
    have hy17 : y1004.length = l0.length - (x6_4 : Int).toNat := (by rw [Ny1004.out, List.length_drop] <;> omega)
    rw [show (l0).drop (x6_4 : Int).toNat = y1004 from Ny1004.out.symm] at hr17
    replace hr17 : Kd.F k109 _ _ A17 y1004.length y1004 := (by rw [hA17]; exact hr17)
    rw [← hy17, ← hA17, ← hc17] at hcut17
    have HO1008 := Aside0.mk (show Kd.V k109 109 _ w.heap.size _ (.slice A17 y1004.length c17) y1004 from Kd.V_mk (by rw [hy17, hc17]; exact Nat.sub_le_sub_right hroom17 _) hr17)
    have HC1008 := Aside0.mk (show y1004.length ≤ c17 from by rw [hy17, hc17]; exact Nat.sub_le_sub_right hroom17 _)
    clear hr17 hC17 hroom17 hi017 hsz17 hc17
    have KY17 := Aside0.mk hy17
    have KA17 := Aside0.mk hA17
    clear hy17 hA17
    replace q17 := eq_true q17
    go_upto_region 7 with (fail)
    go_cut [45] (fun v45 wc => ∃ (kq : Nat) (x45_15 : Bool), v45 = .bool x45_15 ∧ Aside0 (spec_PutEntry.j2 kq l0 x6_4 y1004 x45_15 a1_0 a1_1 = some (r1, r2)) ∧ Aside0 (kq ≤ kj4) ∧ Aside0 (Kd.V k109 109 wc w.heap.size (fun k_ => (P0_ k_ ∨ w.heap.size ≤ k_) ∧ k_ ≠ gb998) (.slice A0 l0.length c0) l0) ∧ Aside0 (Kd.V k109 109 wc w.heap.size (fun k_ => (P0_ k_ ∨ w.heap.size ≤ k_) ∧ k_ ≠ gb998) (.slice A17 y1004.length c17) y1004) ∧ Aside0 (wc.heap[gb998]? = some (.cells #[.string a1_0, .int .i64 a1_1] 109 (0, 0))) ∧ Aside0 (Below w.heap.size w wc))
    case first =>
     have H := HC16.out
     clear HC16
     by_cases c18 : x6_4 < (l0.length : Int)
     ·rw [if_pos c18] at H
      have c18b0 : decide (x6_4 < (l0.length : Int)) = true := decide_eq_true c18
      clear c18
      (first | rw [c18b0] | (simp only [i64_w, i32_w]; rw [c18b0]) | skip)
      have H' := Aside0.mk H
      clear H
      try go_wp2
      replace HO_0 := Aside0.mk (Kd.V_drew HO_0.out)
      replace HO1008 := Aside0.mk (Kd.V_drew HO1008.out)
      replace BK998 := Aside0.mk (blk_drew BK998.out)
      replace HB := Aside0.mk (below_drew1 HB.out)
      have p1009 : 0 ≤ (x6_4 : Int) := dt_
      have q1009 : x6_4 < (l0.length : Int) := dt_
      obtain ⟨ad1009, e1009, hx1009_0, hx1009_1⟩ := at_T109 (Kd.V_reads' HO_0.out).2.2 x6_4 p1009 q1009
      cases e1009
      replace p1009 := eq_true p1009
      replace q1009 := eq_true q1009
      refine start_ (n := 14) (S := fun w' => w'.cell? ⟨gb998, 0, none⟩ = some (.string a1_0) ∧ w'.cell? ⟨gb998, 1, none⟩ = some (.int .i64 a1_1) ∧ w'.cell? (ad1009.add ((x6_4).toNat * 2)) = some (.string ((rd_T109 l0 x6_4).f0)) ∧ w'.cell? ⟨(ad1009.add ((x6_4).toNat * 2)).block, (ad1009.add ((x6_4).toNat * 2)).off + 1, none⟩ = some (.int .i64 ((rd_T109 l0 x6_4).f1))) (ds := []) (tf_ 0 14) (by kernel_rfl) rfl rfl ⟨(blk_cell BK998.out 0).trans rfl, (blk_cell BK998.out 1).trans rfl, hx1009_0, hx1009_1⟩ (fun hHeld => ?_); refine with_tabW spec_PutEntry.tab7 spec_PutEntry.bits7 (fun HT_ HW_ => ?_)
      generalize wc.drew = w19 at HO_0 HO1008 BK998 HB hx1009_0 hx1009_1 hHeld ⊢
      refine paA_ 0 32 1 13 ?_
      refine paA_ 1 33 2 12 ?_
      refine paA_ 2 34 3 11 ?_
      refine paA_ 3 35 4 10 ?_
      refine paA_ 4 36 5 9 ?_
      refine paA_ 5 37 6 8 ?_
      refine paA_ 6 38 7 7 ?_
      refine paA_ 7 39 8 6 ?_
      refine paA_ 8 40 9 5 ?_
      refine pa_ (i := 10) (N := some 42) (tb_ 14 1535) ?_
      refine ta4_ (i := 9) (N := some 41) (tf_ 11 3) ?_
      refine ta4_ (i := 11) (N := some 43) (tf_ 12 2) ?_
      refine paA_ 12 44 13 1 ?_
      refine paA_ 13 45 14 0 ?_
      refine done_ (done_of HT_.out (by kernel_rfl)) ?_
      try go_wp2
      go_meet
      case rel => exact ⟨_, ((((rd_T109 l0 x6_4).f0).toList == a1_0.toList)), rs_, H', ⟨by have := HJ4.out; first | omega | exact Nat.le_refl _⟩, ⟨by refine kV_ ?_; exact HO_0.out⟩, ⟨by refine kV_ ?_; exact HO1008.out⟩, ⟨by (with_reducible repeat (first | refine blk_drewN ?_ _ | refine blk_drew ?_ | refine blk_alloc ?_ _)); exact BK998.out⟩, ⟨by repeat (first | (with_reducible first | exact HB.out | apply below_alloc | apply pw_below_drewN | apply below_drew1 | refine below_set ?_ GE998.out) | exact HB.out)⟩⟩
     ·rw [if_neg c18] at H
      have c18b0 : decide (x6_4 < (l0.length : Int)) = false := decide_eq_false c18
      clear c18
      (first | rw [c18b0] | (simp only [i64_w, i32_w]; rw [c18b0]) | skip)
      have H' := Aside0.mk H
      clear H
      try go_wp2
      replace HO_0 := Aside0.mk (Kd.V_drew HO_0.out)
      replace HO1008 := Aside0.mk (Kd.V_drew HO1008.out)
      replace BK998 := Aside0.mk (blk_drew BK998.out)
      replace HB := Aside0.mk (below_drew1 HB.out)
      refine start_ (n := 14) (S := fun w' => True) (ds := []) (tf_ 0 14) (by kernel_rfl) rfl rfl trivial (fun hHeld => ?_); refine with_tabW spec_PutEntry.tab7 spec_PutEntry.bits7 (fun HT_ HW_ => ?_)
      generalize wc.drew = w20 at HO_0 HO1008 BK998 HB hHeld ⊢
      refine paA_ 0 32 1 13 ?_
      refine paA_ 1 33 2 12 ?_
      refine paA_ 2 34 3 11 ?_
      refine paA_ 3 35 4 10 ?_
      refine paA_ 4 36 5 9 ?_
      refine pnA_ 5 37 6 8 ?_
      refine pnA_ 6 38 7 7 ?_
      refine pnA_ 7 39 8 6 ?_
      refine pnA_ 8 40 9 5 ?_
      refine pnA_ 9 41 10 4 ?_
      refine pnA_ 10 42 11 3 ?_
      refine pnA_ 11 43 12 2 ?_
      refine pnA_ 12 44 13 1 ?_
      refine paA_ 13 45 14 0 ?_
      refine done_ (done_of HT_.out (by kernel_rfl)) ?_
      try go_wp2
      go_meet
      case rel => exact ⟨_, (false), rs_, H', ⟨by have := HJ4.out; first | omega | exact Nat.le_refl _⟩, ⟨by refine kV_ ?_; exact HO_0.out⟩, ⟨by refine kV_ ?_; exact HO1008.out⟩, ⟨by (with_reducible repeat (first | refine blk_drewN ?_ _ | refine blk_drew ?_ | refine blk_alloc ?_ _)); exact BK998.out⟩, ⟨by repeat (first | (with_reducible first | exact HB.out | apply below_alloc | apply pw_below_drewN | apply below_drew1 | refine below_set ?_ GE998.out) | exact HB.out)⟩⟩
    case rest =>
     clear HC16
     try clear c1
     try clear p1
     try clear q1
     try clear hx1
     try clear p2
     try clear c4
     try clear p6
     try clear c8
     try clear c8b0
     try clear c9
     try clear c9b0
     try clear c10
     try clear c10b0
     try clear p10
     try clear q10
     try clear hx10
     try clear c11
     try clear c14
     try clear c14b0
     try clear c14b1
     try clear c15
     try clear c15b0
     try clear c15b1
     try clear c17
     try clear q17
     try clear c18
     try clear c18b0
     try clear hx1003_0
     try clear hx1003_1
     try clear hx1009_0
     try clear hx1009_1
     try clear p1
     try clear p10
     try clear p1003
     try clear p1009
     try clear p2
     try clear p6
     try clear q017
     try clear q1
     try clear q10
     try clear q1003
     try clear q1009
     try clear q17
     obtain ⟨kq, x45_15, rfl, HA, HJ15, HO_0, HO_7, BK998, HB⟩ := hcut
     cases kq with
     | zero => exact absurd HA.out (by simp [spec_PutEntry.j2])
     | succ kj15 =>
      have H := HA.out
      clear HA
      simp only [spec_PutEntry.j2] at H
      have HC21 := Aside0.mk H
      clear H
      go_upto_if 45 with (fail)
      go_cut [7] (fun v7 wc => ∃ (kq : Nat) (x7_20 : List (S109)), Aside0 (spec_PutEntry.j3 kq l0 x6_4 x7_20 a1_0 a1_1 = some (r1, r2)) ∧ Aside0 (kq ≤ kj15) ∧ Aside0 (Kd.V k109 109 wc w.heap.size (fun k_ => (P0_ k_ ∨ w.heap.size ≤ k_) ∧ k_ ≠ gb998) (.slice A0 l0.length c0) l0) ∧ Aside0 (Kd.V k109 109 wc w.heap.size (fun k_ => (P0_ k_ ∨ w.heap.size ≤ k_) ∧ k_ ≠ gb998) v7 x7_20) ∧ Aside0 (wc.heap[gb998]? = some (.cells #[.string a1_0, .int .i64 a1_1] 109 (0, 0))) ∧ Aside0 (Below w.heap.size w wc))
      case first =>
       have H := HC21.out
       clear HC21
       by_cases c22 : x45_15 = true
       ·subst c22
        have H1 : (if 0 ≤ (wrap64 (x6_4 + 1)) then (if (wrap64 (x6_4 + 1)) ≤ (l0.length : Int) then (spec_PutEntry.j3 kj15 l0 x6_4 (l0.drop ((wrap64 (x6_4 + 1)) : Int).toNat) a1_0 a1_1) else (none)) else (none)) = some (r1, r2) := by rw [if_pos rfl] at H; exact H
        clear H
        have H := H1
        clear H1
        try (have e_ : (wrap64 (x6_4 + 1)) = ji21 := hji21; clear e_; clear hji21; try clear hji21w)
        obtain ⟨ji23, hji23⟩ : ∃ j_ : Int, (wrap64 (x6_4 + 1)) = j_ := ⟨_, rfl⟩
        replace H : (if 0 ≤ (ji23) then (if (ji23) ≤ (l0.length : Int) then (spec_PutEntry.j3 kj15 l0 x6_4 (l0.drop ((ji23) : Int).toNat) a1_0 a1_1) else (none)) else (none)) = some (r1, r2) := by first | (rw [hji23] at H; exact H) | (simp only [hji23] at H ⊢; exact H)
        have hji23w : (IntKind.i64.wrap (x6_4 + 1)) = ji23 := (i64_w _).trans hji23
        by_cases c24 : 0 ≤ (ji23); rotate_left
        ·rw [if_neg c24] at H; exact absurd H (by simp)
        rw [if_pos c24] at H
        have c24b0 := eq_true c24
        have c24b1 : decide (0 ≤ (ji23)) = true := decide_eq_true c24
        clear c24
        by_cases c25 : (ji23) ≤ (l0.length : Int); rotate_left
        ·rw [if_neg c25] at H; exact absurd H (by simp)
        rw [if_pos c25] at H
        have c25b0 := eq_true c25
        have c25b1 : decide ((ji23) ≤ (l0.length : Int)) = true := decide_eq_true c25
        clear c25
        obtain ⟨y1010, hy1010⟩ : ∃ y_ : List (S109), y_ = (l0.drop ((ji23) : Int).toNat) := ⟨_, rfl⟩
        replace H : (spec_PutEntry.j3 kj15 l0 x6_4 y1010 a1_0 a1_1) = some (r1, r2) := hq_ hy1010 H
        have Ny1010 := Aside0.mk hy1010
        clear hy1010
        have H' := Aside0.mk H
        clear H
        have q26 : ((ji23) : Int) ≤ ((l0.length : Int) : Int) := dt_
        obtain ⟨i026, hi026, _, hsz26, _⟩ := info_parts info109
        have hroom26 : l0.length ≤ c0 := (Kd.V_reads' HO_0.out).2.1
        have hC26 : Kd.F k109 _ _ A0 l0.length l0 := (Kd.V_at (base := w.heap.size) HO_0.out).2.2
        have q026 : (0 : Int) ≤ ((ji23) : Int) := dt_
        have hcut26 := cut_from (P := Try.prog) 102 109 .i64 Try.underlying102 hi026 2 hsz26 A0 l0.length c0 (ji23) q026 q26
        have hr26 := Kd.F_cut (m := ((ji23) : Int).toNat) (c := c0) hC26 (by omega) hroom26
        obtain ⟨A26, hA26⟩ : ∃ A1, A1 = (if c0 = ((ji23) : Int).toNat then A0 else (A0 : Option Addr).map (·.add (((ji23) : Int).toNat * 2))) := ⟨_, rfl⟩
        obtain ⟨c26, hc26⟩ : ∃ c1, c1 = c0 - ((ji23) : Int).toNat := ⟨_, rfl⟩
        have hy26 : y1010.length = l0.length - ((ji23) : Int).toNat := (by rw [Ny1010.out, List.length_drop] <;> omega)
        rw [show (l0).drop ((ji23) : Int).toNat = y1010 from Ny1010.out.symm] at hr26
        replace hr26 : Kd.F k109 _ _ A26 y1010.length y1010 := (by rw [hA26]; exact hr26)
        rw [← hy26, ← hA26, ← hc26] at hcut26
        have HO1014 := Aside0.mk (show Kd.V k109 109 _ w.heap.size _ (.slice A26 y1010.length c26) y1010 from Kd.V_mk (by rw [hy26, hc26]; exact Nat.sub_le_sub_right hroom26 _) hr26)
        have HC1014 := Aside0.mk (show y1010.length ≤ c26 from by rw [hy26, hc26]; exact Nat.sub_le_sub_right hroom26 _)
        clear hr26 hC26 hroom26 hi026 hsz26 hc26
        have KY26 := Aside0.mk hy26
        have KA26 := Aside0.mk hA26
        clear hy26 hA26
        replace q26 := eq_true q26
        go_wp2
        go_meet
        case rel => exact ⟨_, (y1010), H', ⟨by have := HJ4.out; have := HJ15.out; first | omega | exact Nat.le_refl _⟩, ⟨by refine kV_ ?_; exact HO_0.out⟩, ⟨by refine kV_ ?_; exact HO1014.out⟩, ⟨by (with_reducible repeat (first | refine blk_drewN ?_ _ | refine blk_drew ?_ | refine blk_alloc ?_ _)); exact BK998.out⟩, ⟨by repeat (first | (with_reducible first | exact HB.out | apply below_alloc | apply pw_below_drewN | apply below_drew1 | refine below_set ?_ GE998.out) | exact HB.out)⟩⟩
       ·replace c22 := Bool.eq_false_iff.mpr c22
        subst c22
        have H1 : (spec_PutEntry.j3 kj15 l0 x6_4 y1004 a1_0 a1_1) = some (r1, r2) := by rw [if_neg (show ¬ (false = true) by decide)] at H; exact H
        clear H
        have H := H1
        clear H1
        have H' := Aside0.mk H
        clear H
        go_wp2
        go_meet
        case rel => exact ⟨_, (y1004), H', ⟨by have := HJ4.out; have := HJ15.out; first | omega | exact Nat.le_refl _⟩, ⟨by refine kV_ ?_; exact HO_0.out⟩, ⟨by refine kV_ ?_; exact HO_7.out⟩, ⟨by (with_reducible repeat (first | refine blk_drewN ?_ _ | refine blk_drew ?_ | refine blk_alloc ?_ _)); exact BK998.out⟩, ⟨by repeat (first | (with_reducible first | exact HB.out | apply below_alloc | apply pw_below_drewN | apply below_drew1 | refine below_set ?_ GE998.out) | exact HB.out)⟩⟩
      case rest =>
       clear HC21
       try clear c1
       try clear p1
       try clear q1
       try clear hx1
       try clear c2
       try clear p2
       try clear q2
       try clear c4
       try clear p6
       try clear c8
       try clear c8b0
       try clear c9
       try clear c9b0
       try clear c10
       try clear c10b0
       try clear p10
       try clear q10
       try clear hx10
       try clear c11
       try clear c14
       try clear c14b0
       try clear c14b1
       try clear c15
       try clear c15b0
       try clear c15b1
       try clear c17
       try clear q17
       try clear c18
       try clear c18b0
       try clear c22
       try clear c24
       try clear c24b0
       try clear c24b1
       try clear c25
       try clear c25b0
       try clear c25b1
       try clear c26
       try clear q26
       try clear hx1003_0
       try clear hx1003_1
       try clear hx1009_0
       try clear hx1009_1
       try clear p1
       try clear p10
       try clear p1003
       try clear p1009
       try clear p2
       try clear p6
       try clear q017
       try clear q026
       try clear q1
       try clear q10
       try clear q1003
       try clear q1009
       try clear q17
       try clear q26
       obtain ⟨kq, x7_20, HA, HJ20, HO_0, HO_7, BK998, HB⟩ := hcut
       cases kq with
       | zero => exact absurd HA.out (by simp [spec_PutEntry.j3])
       | succ kj20 =>
        have H := HA.out
        clear HA
        simp only [spec_PutEntry.j3] at H
        obtain ⟨y1015, hy1015⟩ : ∃ y_ : List (S109), y_ = (([] : List (S109))) := ⟨_, rfl⟩
        replace H : (if 0 ≤ x6_4 then (if x6_4 ≤ (l0.length : Int) then ((some (l0.take (x6_4 : Int).toNat : List (S109))).bind fun y1018 => (if y1015.length + y1018.length < 5864062014805 then ((some (y1015 ++ y1018 : List (S109))).bind fun y1023 => ((some (([(⟨a1_0, a1_1⟩ : S109)] : List (S109)) : List (S109))).bind fun y1026 => (if y1023.length + y1026.length < 5864062014805 then ((some (y1023 ++ y1026 : List (S109))).bind fun y1029 => (if y1029.length + x7_20.length < 5864062014805 then ((some (y1029 ++ x7_20 : List (S109))).bind fun y1032 => ((spec_EntriesValid.f kj20 y1032).bind fun t1035 => (if t1035 = true then (some (y1032, true)) else ((some (([] : List (S109)) : List (S109))).bind fun y1036 => (if y1036.length + l0.length < 5864062014805 then (some ((y1036 ++ l0), false)) else (none)))))) else (none))) else (none)))) else (none))) else (none)) else (none)) = some (r1, r2) := hq_ hy1015 H
        have Ny1015 := Aside0.mk hy1015
        clear hy1015
        by_cases c27 : 0 ≤ x6_4; rotate_left
        ·rw [if_neg c27] at H; exact absurd H (by simp)
        rw [if_pos c27] at H
        have c27b0 := eq_true c27
        have c27b1 : decide (0 ≤ x6_4) = true := decide_eq_true c27
        clear c27
        by_cases c28 : x6_4 ≤ (l0.length : Int); rotate_left
        ·rw [if_neg c28] at H; exact absurd H (by simp)
        rw [if_pos c28] at H
        have c28b0 := eq_true c28
        have c28b1 : decide (x6_4 ≤ (l0.length : Int)) = true := decide_eq_true c28
        clear c28
        obtain ⟨y1018, hy1018⟩ : ∃ y_ : List (S109), y_ = (l0.take (x6_4 : Int).toNat) := ⟨_, rfl⟩
        replace H : (if y1015.length + y1018.length < 5864062014805 then ((some (y1015 ++ y1018 : List (S109))).bind fun y1023 => ((some (([(⟨a1_0, a1_1⟩ : S109)] : List (S109)) : List (S109))).bind fun y1026 => (if y1023.length + y1026.length < 5864062014805 then ((some (y1023 ++ y1026 : List (S109))).bind fun y1029 => (if y1029.length + x7_20.length < 5864062014805 then ((some (y1029 ++ x7_20 : List (S109))).bind fun y1032 => ((spec_EntriesValid.f kj20 y1032).bind fun t1035 => (if t1035 = true then (some (y1032, true)) else ((some (([] : List (S109)) : List (S109))).bind fun y1036 => (if y1036.length + l0.length < 5864062014805 then (some ((y1036 ++ l0), false)) else (none)))))) else (none))) else (none)))) else (none)) = some (r1, r2) := hq_ hy1018 H
        have Ny1018 := Aside0.mk hy1018
        clear hy1018
        by_cases c29 : y1015.length + y1018.length < 5864062014805; rotate_left
        ·rw [if_neg c29] at H; exact absurd H (by simp)
        rw [if_pos c29] at H
        have LMc29 := Aside0.mk c29
        clear c29
        obtain ⟨y1023, hy1023⟩ : ∃ y_ : List (S109), y_ = (y1015 ++ y1018) := ⟨_, rfl⟩
        replace H : ((some (([(⟨a1_0, a1_1⟩ : S109)] : List (S109)) : List (S109))).bind fun y1026 => (if y1023.length + y1026.length < 5864062014805 then ((some (y1023 ++ y1026 : List (S109))).bind fun y1029 => (if y1029.length + x7_20.length < 5864062014805 then ((some (y1029 ++ x7_20 : List (S109))).bind fun y1032 => ((spec_EntriesValid.f kj20 y1032).bind fun t1035 => (if t1035 = true then (some (y1032, true)) else ((some (([] : List (S109)) : List (S109))).bind fun y1036 => (if y1036.length + l0.length < 5864062014805 then (some ((y1036 ++ l0), false)) else (none)))))) else (none))) else (none))) = some (r1, r2) := hq_ hy1023 H
        have Ny1023 := Aside0.mk hy1023
        clear hy1023
        obtain ⟨y1026, hy1026⟩ : ∃ y_ : List (S109), y_ = (([(⟨a1_0, a1_1⟩ : S109)] : List (S109))) := ⟨_, rfl⟩
        replace H : (if y1023.length + y1026.length < 5864062014805 then ((some (y1023 ++ y1026 : List (S109))).bind fun y1029 => (if y1029.length + x7_20.length < 5864062014805 then ((some (y1029 ++ x7_20 : List (S109))).bind fun y1032 => ((spec_EntriesValid.f kj20 y1032).bind fun t1035 => (if t1035 = true then (some (y1032, true)) else ((some (([] : List (S109)) : List (S109))).bind fun y1036 => (if y1036.length + l0.length < 5864062014805 then (some ((y1036 ++ l0), false)) else (none)))))) else (none))) else (none)) = some (r1, r2) := hq_ hy1026 H
        have Ny1026 := Aside0.mk hy1026
        clear hy1026
        by_cases c30 : y1023.length + y1026.length < 5864062014805; rotate_left
        ·rw [if_neg c30] at H; exact absurd H (by simp)
        rw [if_pos c30] at H
        have LMc30 := Aside0.mk c30
        clear c30
        obtain ⟨y1029, hy1029⟩ : ∃ y_ : List (S109), y_ = (y1023 ++ y1026) := ⟨_, rfl⟩
        replace H : (if y1029.length + x7_20.length < 5864062014805 then ((some (y1029 ++ x7_20 : List (S109))).bind fun y1032 => ((spec_EntriesValid.f kj20 y1032).bind fun t1035 => (if t1035 = true then (some (y1032, true)) else ((some (([] : List (S109)) : List (S109))).bind fun y1036 => (if y1036.length + l0.length < 5864062014805 then (some ((y1036 ++ l0), false)) else (none)))))) else (none)) = some (r1, r2) := hq_ hy1029 H
        have Ny1029 := Aside0.mk hy1029
        clear hy1029
        by_cases c31 : y1029.length + x7_20.length < 5864062014805; rotate_left
        ·rw [if_neg c31] at H; exact absurd H (by simp)
        rw [if_pos c31] at H
        have LMc31 := Aside0.mk c31
        clear c31
        obtain ⟨y1032, hy1032⟩ : ∃ y_ : List (S109), y_ = (y1029 ++ x7_20) := ⟨_, rfl⟩
        replace H : ((spec_EntriesValid.f kj20 y1032).bind fun t1035 => (if t1035 = true then (some (y1032, true)) else ((some (([] : List (S109)) : List (S109))).bind fun y1036 => (if y1036.length + l0.length < 5864062014805 then (some ((y1036 ++ l0), false)) else (none))))) = some (r1, r2) := hq_ hy1032 H
        have Ny1032 := Aside0.mk hy1032
        clear hy1032
        replace H := Option.bind_eq_some_iff.mp H
        obtain ⟨t1035, A320, H⟩ := H
        replace H : (if t1035 = true then (some (y1032, true)) else ((some (([] : List (S109)) : List (S109))).bind fun y1036 => (if y1036.length + l0.length < 5864062014805 then (some ((y1036 ++ l0), false)) else (none)))) = some (r1, r2) := H
        have A32 := Aside0.mk A320
        clear A320
        by_cases c33 : t1035 = true
        ·subst c33
         have H1 : (some (y1032, true)) = some (r1, r2) := by rw [if_pos rfl] at H; exact H
         clear H
         have H := H1
         clear H1
         simp only [Option.some.injEq, Prod.mk.injEq] at H
         obtain ⟨rfl, rfl⟩ := H
         obtain ⟨Ao34, co34, eo34⟩ := Kd.V_slice HO_7.out
         subst eo34
         try go_wp2
         replace HO_0 := Aside0.mk (Kd.V_drew HO_0.out)
         replace HO_7 := Aside0.mk (Kd.V_drew HO_7.out)
         replace BK998 := Aside0.mk (blk_drew BK998.out)
         replace HB := Aside0.mk (below_drew1 HB.out)
         have q36 : (x6_4 : Int) ≤ ((l0.length : Int) : Int) := dt_
         obtain ⟨i036, hi036, _, hsz36, _⟩ := info_parts info109
         have hroom36 : l0.length ≤ c0 := (Kd.V_reads' HO_0.out).2.1
         have hC36 : Kd.F k109 _ _ A0 l0.length l0 := (Kd.V_at (base := w.heap.size) HO_0.out).2.2
         have hcut36 := cut_to (P := Try.prog) 102 109 .i64 Try.underlying102 hi036 A0 l0.length c0 x6_4 (dt_) q36 hroom36
         have hr36 := Kd.F_take (m := (x6_4 : Int).toNat) hC36 (by omega)
         have hy36 : y1018.length = (x6_4 : Int).toNat := (by rw [Ny1018.out, List.length_take]; omega)
         rw [← Ny1018.out] at hr36
         rw [← hy36] at hcut36
         have HO1022 := Aside0.mk (show Kd.V k109 109 _ w.heap.size _ (.slice A0 y1018.length c0) y1018 from Kd.V_mk (by omega) hr36)
         have HC1022 := Aside0.mk (show y1018.length ≤ c0 from by omega)
         clear hr36 hC36 hroom36 hi036 hsz36
         have KY36 := Aside0.mk hy36
         clear hy36
         replace q36 := eq_true q36
         refine start_ (n := 11) (S := fun w' => w'.cell? ⟨gb998, 0, none⟩ = some (.string a1_0) ∧ w'.cell? ⟨gb998, 1, none⟩ = some (.int .i64 a1_1)) (ds := []) (tf_ 0 11) (by kernel_rfl) rfl rfl ⟨(blk_cell BK998.out 0).trans rfl, (blk_cell BK998.out 1).trans rfl⟩ (fun hHeld => ?_); refine with_tabW spec_PutEntry.tab9 spec_PutEntry.bits9 (fun HT_ HW_ => ?_)
         generalize wc.drew = w35 at HO_0 HO_7 BK998 HB HO1022 hHeld ⊢
         refine pa_ (i := 1) (N := some 51) (tb_ 11 2) ?_
         refine pa_ (i := 2) (N := some 52) (tb_ 11 6) ?_
         refine pa_ (i := 3) (N := some 53) (tb_ 11 14) ?_
         refine pa_ (i := 8) (N := some 58) (tb_ 11 270) ?_
         refine ta2_ (i := 5) (N := some 55) (tb_ 11 302) ?_
         refine join_ (σ := Value × Value × Value) 3 (tb_ 11 383) (fun s_ => [(50, s_.1), (54, s_.2.1), (56, s_.2.2)]) (fun s_ w' => (w'.cell? ⟨gb998, 0, none⟩ = some (.string a1_0) ∧ w'.cell? ⟨gb998, 1, none⟩ = some (.int .i64 a1_1)) ∧ (Kd.V k109 109 w' w.heap.size (fun k_ => (P0_ k_ ∨ w.heap.size ≤ k_) ∧ some k_ ≠ (s_.2.1 : Value).ownBlock ∧ some k_ ≠ (s_.2.2 : Value).ownBlock ∧ k_ ≠ gb998) (.slice A0 y1018.length c0) y1018) ∧ (Kd.R k109 109 w' w.heap.size (fun k_ => (w.heap.size ≤ k_) ∧ some k_ ≠ (s_.2.2 : Value).ownBlock ∧ k_ ≠ gb998) s_.2.1 y1023) ∧ (Kd.R k109 109 w' w.heap.size (fun k_ => (w.heap.size ≤ k_) ∧ some k_ ≠ (s_.2.1 : Value).ownBlock ∧ k_ ≠ gb998) s_.2.2 y1026) ∧ (Kd.V k109 109 w' w.heap.size (fun k_ => (P0_ k_ ∨ w.heap.size ≤ k_) ∧ some k_ ≠ (s_.2.1 : Value).ownBlock ∧ some k_ ≠ (s_.2.2 : Value).ownBlock ∧ k_ ≠ gb998) (.slice A0 l0.length c0) l0) ∧ (Kd.V k109 109 w' w.heap.size (fun k_ => (P0_ k_ ∨ w.heap.size ≤ k_) ∧ some k_ ≠ (s_.2.1 : Value).ownBlock ∧ some k_ ≠ (s_.2.2 : Value).ownBlock ∧ k_ ≠ gb998) (.slice Ao34 x7_20.length co34) x7_20) ∧ (w'.heap[gb998]? = some (.cells #[.string a1_0, .int .i64 a1_1] 109 (0, 0))) ∧ (Below w.heap.size w w')) ?_ ?_
         rotate_left
         ·intro hCont
          refine two_ (i := 0) (j := 6) (Ni := some 50) (Nj := some 56) (tb_ 11 303) (tb_ 11 366) rfl rfl rfl rfl (two_of HT_.out (by kernel_rfl)) (by decide) (by decide) (fun K hK => ?_) (fun K hK => ?_)
          ·skip
           refine Kd.R_lit_step k109 _ 109 ?hg (N := 50) ?hd (xs := ([] : List (S109))) (inner := []) (ok := fun _ => True) (okp := fun _ => True) ?hr ?hp (fun _ hk => hk) trivial (Below.refl _ _) (Nat.le_refl _) (by simp) ?_; (case hd => rfl); (case hg => rfl); (case hr => first | (go_simp; done) | (go_simp; rfl)); (case hp => exact (Reps.none _ _))
           intro v1016 w37 ho38 hb hg_ hnew_
           clear hg_ hnew_
           (first | rw [← Ny1015.out] at ho38 | (simp only [Int.reduceToNat] at ho38; rw [← Ny1015.out] at ho38))
           replace HO_0 := Aside0.mk (Kd.V_elder' (kV_ HO_0.out) (Kd.R_base ho38) hb)
           replace HO_7 := Aside0.mk (Kd.V_elder' (kV_ HO_7.out) (Kd.R_base ho38) hb)
           replace HO1022 := Aside0.mk (Kd.V_elder' (kV_ HO1022.out) (Kd.R_base ho38) hb)
           have HO1017 := Aside0.mk (Kd.R_lower (Kd.R_newB (Kd.R_newM (M := fun k_ => (w.heap.size ≤ k_)) ho38 (below_size (hs_ GE998.out)) (fun k_ h_ => h_)) (g := gb998) (o := .cells #[.string a1_0, .int .i64 a1_1] 109 (0, 0)) (kB_ BK998.out)) (below_size (hs_ GE998.out)))
           replace BK998 := Aside0.mk (blk_below (g := gb998) (o := .cells #[.string a1_0, .int .i64 a1_1] 109 (0, 0)) (kB_ BK998.out) hb)
           replace HB := Aside0.mk (below_step (hs_ GE998.out) hb)
           clear hb ho38
           refine hK.out _ _ ⟨(blk_cell BK998.out 0).trans rfl, (blk_cell BK998.out 1).trans rfl⟩ (fun hHeld => ?_)
           clear hK K
           refine norm_ (a' := ?_) ?_ ?_
           rotate_left
           ·show Act.put _ (some 50) _ = _
            simp only [Act.put, List.setIfInBounds_toArray, List.set_cons_zero, List.set_cons_succ, i64_w, i32_w]
            rfl
           refine two_ (i := 4) (j := 6) (Ni := some 54) (Nj := some 56) (tb_ 11 319) (tb_ 11 367) rfl rfl rfl rfl (two_of HT_.out (by kernel_rfl)) (by decide) (by decide) (fun K hK => ?_) (fun K hK => ?_)
           ·skip
            refine Kd.R_append_rows_step k109 (w0 := w) w.heap.size (by rfl) (.tmp 50) (.tmp 53) 102 109 (.agg #[(.string ⟨#[]⟩), (.int .i64 0)]) 24 rfl Try.underlying102 info109 rfl (by decide) (by omega) v1016 y1015 y1018 _ _ _ (fun k_ => (w.heap.size ≤ k_) ∧ k_ ≠ gb998) (fun _ => False) rfl rfl ?aO ?aR (fun _ _ h => h) (fun _ h => h.elim) ?aF ?aB ?aS ?aL ?_
            (case aR => repeat (first | exact (Kd.V_reads' HO1022.out).2.2 | (with_reducible refine Kd.C_alloc ?_ _) | (with_reducible refine Kd.C_drewN ?_ _) | (with_reducible refine Kd.C_drew ?_)))
            (case aB => exact (hs_ GE998.out))
            (case aF => exact (fun k_ hk => ⟨(Nat.le_trans (below_size (hs_ GE998.out)) hk), Kd.freshB (g := gb998) (o := .cells #[.string a1_0, .int .i64 a1_1] 109 (0, 0)) (kB_ BK998.out) k_ hk⟩))
            (case aO => exact (by refine kR_ ?_; exact Kd.R_mono HO1017.out (fun _ hk => ⟨hk.1.1, hk.2⟩)))
            (case aS => exact (below_size (hs_ GE998.out)))
            (case aL => have := LMc29.out; omega)
            intro v1024 w39 ho hb hg hat
            rw [← Ny1023.out] at ho
            have n0_ := Aside0.mk (Kd.V_afterv (ok := (fun k_ => (P0_ k_ ∨ w.heap.size ≤ k_) ∧ k_ ≠ gb998)) (kV_ HO_0.out) hg hat)
            have n1_ := Aside0.mk (Kd.V_afterv (ok := (fun k_ => (P0_ k_ ∨ w.heap.size ≤ k_) ∧ k_ ≠ gb998)) (kV_ HO_7.out) hg hat)
            have n2_ := Aside0.mk (blk_grown (g := gb998) (o := .cells #[.string a1_0, .int .i64 a1_1] 109 (0, 0)) (kB_ BK998.out) hg (Kd.R_away HO1017.out (fun _ hk => hk.2)))
            have n3_ := Aside0.mk (Kd.V_afterv (ok := (fun k_ => (P0_ k_ ∨ w.heap.size ≤ k_) ∧ k_ ≠ gb998)) (kV_ HO1022.out) hg hat)
            have n4_ := Aside0.mk (hb)
            have n5_ := Aside0.mk (ho)
            clear HO_0
            clear HO_7
            clear BK998
            clear HO1022
            clear HB
            clear HO1017
            have HO_0 := n0_
            have HO_7 := n1_
            have BK998 := n2_
            have HO1022 := n3_
            have HB := n4_
            have HO1025 := n5_
            clear n0_ n1_ n2_ n3_ n4_ n5_
            clear ho hb hg hat
            refine hK.out _ _ ⟨(blk_cell BK998.out 0).trans rfl, (blk_cell BK998.out 1).trans rfl⟩ (fun hHeld => ?_)
            clear hK K
            refine norm_ (a' := ?_) ?_ ?_
            rotate_left
            ·show Act.put _ (some 54) _ = _
             simp only [Act.put, List.setIfInBounds_toArray, List.set_cons_zero, List.set_cons_succ, i64_w, i32_w]
             rfl
            refine one_ (i := 6) (N := some 56) (tb_ 11 383) rfl rfl (one_of HT_.out (by kernel_rfl)) (by decide) (fun K hK => ?_)
            refine Kd.R_lit_step k109 _ 109 ?hg (N := 56) ?hd (xs := ([(⟨a1_0, a1_1⟩ : S109)] : List (S109))) (inner := [.string a1_0, .int .i64 a1_1]) (ok := fun _ => True) (okp := fun _ => True) ?hr ?hp (fun _ hk => hk) trivial (Below.refl _ _) (Nat.le_refl _) (by simp) ?_; (case hd => rfl); (case hg => rfl); (case hr => first | (go_simp; done) | (go_simp; rfl)); (case hp => exact (Reps.c2 (show Kd.M k109 _ _ _ (⟨a1_0, a1_1⟩ : S109) [.string a1_0, .int .i64 a1_1] from (k109_mkM _ _ _ (⟨a1_0, a1_1⟩ : S109) )) (Reps.none _ _)))
            intro v1027 w40 ho41 hb hg_ hnew_
            clear hg_ hnew_
            (first | rw [← Ny1026.out] at ho41 | (simp only [Int.reduceToNat] at ho41; rw [← Ny1026.out] at ho41))
            replace HO_0 := Aside0.mk (Kd.V_elder' (kV_ HO_0.out) (Kd.R_base ho41) hb)
            replace HO_7 := Aside0.mk (Kd.V_elder' (kV_ HO_7.out) (Kd.R_base ho41) hb)
            replace HO1022 := Aside0.mk (Kd.V_elder' (kV_ HO1022.out) (Kd.R_base ho41) hb)
            have HO1028 := Aside0.mk (Kd.R_lower (Kd.R_newB (Kd.R_new' (Kd.R_newM (M := fun k_ => (w.heap.size ≤ k_)) ho41 (below_size (hs_ GE998.out)) (fun k_ h_ => h_)) (Kd.R_lt (kR_ HO1025.out))) (g := gb998) (o := .cells #[.string a1_0, .int .i64 a1_1] 109 (0, 0)) (kB_ BK998.out)) (below_size (hs_ GE998.out)))
            replace HO1025 := Aside0.mk (Kd.R_elder' (kR_ HO1025.out) (Kd.R_base ho41) hb)
            replace BK998 := Aside0.mk (blk_below (g := gb998) (o := .cells #[.string a1_0, .int .i64 a1_1] 109 (0, 0)) (kB_ BK998.out) hb)
            replace HB := Aside0.mk (below_step (hs_ GE998.out) hb)
            clear hb ho41
            refine hK.out _ _ ⟨(blk_cell BK998.out 0).trans rfl, (blk_cell BK998.out 1).trans rfl⟩ (fun hHeld => ?_)
            clear hK K
            refine norm_ (a' := ?_) ?_ ?_
            rotate_left
            ·show Act.put _ (some 56) _ = _
             simp only [Act.put, List.setIfInBounds_toArray, List.set_cons_zero, List.set_cons_succ, i64_w, i32_w]
             rfl
            exact norm_ (by simp only [putAll, Act.put, List.setIfInBounds_toArray, List.set_cons_zero, List.set_cons_succ]) (hCont (v1016, v1024, v1027) _ ⟨hHeld, (by refine kV_ ?_; exact Kd.V_mono HO1022.out (fun _ hk => ⟨hk.1.1.1, ⟨hk.1.2, ⟨hk.2, hk.1.1.2⟩⟩⟩)), (by refine kR_ ?_; exact Kd.R_mono HO1025.out (fun _ hk => ⟨hk.1.1, ⟨hk.2, hk.1.2⟩⟩)), (by refine kR_ ?_; exact Kd.R_mono HO1028.out (fun _ hk => ⟨hk.1.1.1, ⟨hk.1.2, hk.2⟩⟩)), (by refine kV_ ?_; exact Kd.V_mono HO_0.out (fun _ hk => ⟨hk.1.1.1, ⟨hk.1.2, ⟨hk.2, hk.1.1.2⟩⟩⟩)), (by refine kV_ ?_; exact Kd.V_mono HO_7.out (fun _ hk => ⟨hk.1.1.1, ⟨hk.1.2, ⟨hk.2, hk.1.1.2⟩⟩⟩)), (kB_ BK998.out), (hs_ GE998.out)⟩)
           ·skip
            refine Kd.R_lit_step k109 _ 109 ?hg (N := 56) ?hd (xs := ([(⟨a1_0, a1_1⟩ : S109)] : List (S109))) (inner := [.string a1_0, .int .i64 a1_1]) (ok := fun _ => True) (okp := fun _ => True) ?hr ?hp (fun _ hk => hk) trivial (Below.refl _ _) (Nat.le_refl _) (by simp) ?_; (case hd => rfl); (case hg => rfl); (case hr => first | (go_simp; done) | (go_simp; rfl)); (case hp => exact (Reps.c2 (show Kd.M k109 _ _ _ (⟨a1_0, a1_1⟩ : S109) [.string a1_0, .int .i64 a1_1] from (k109_mkM _ _ _ (⟨a1_0, a1_1⟩ : S109) )) (Reps.none _ _)))
            intro v1027 w39 ho40 hb hg_ hnew_
            clear hg_ hnew_
            (first | rw [← Ny1026.out] at ho40 | (simp only [Int.reduceToNat] at ho40; rw [← Ny1026.out] at ho40))
            replace HO_0 := Aside0.mk (Kd.V_elder' (kV_ HO_0.out) (Kd.R_base ho40) hb)
            replace HO_7 := Aside0.mk (Kd.V_elder' (kV_ HO_7.out) (Kd.R_base ho40) hb)
            replace HO1022 := Aside0.mk (Kd.V_elder' (kV_ HO1022.out) (Kd.R_base ho40) hb)
            have HO1028 := Aside0.mk (Kd.R_lower (Kd.R_newB (Kd.R_new' (Kd.R_newM (M := fun k_ => (w.heap.size ≤ k_)) ho40 (below_size (hs_ GE998.out)) (fun k_ h_ => h_)) (Kd.R_lt (kR_ HO1017.out))) (g := gb998) (o := .cells #[.string a1_0, .int .i64 a1_1] 109 (0, 0)) (kB_ BK998.out)) (below_size (hs_ GE998.out)))
            replace HO1017 := Aside0.mk (Kd.R_elder' (kR_ HO1017.out) (Kd.R_base ho40) hb)
            replace BK998 := Aside0.mk (blk_below (g := gb998) (o := .cells #[.string a1_0, .int .i64 a1_1] 109 (0, 0)) (kB_ BK998.out) hb)
            replace HB := Aside0.mk (below_step (hs_ GE998.out) hb)
            clear hb ho40
            refine hK.out _ _ ⟨(blk_cell BK998.out 0).trans rfl, (blk_cell BK998.out 1).trans rfl⟩ (fun hHeld => ?_)
            clear hK K
            refine norm_ (a' := ?_) ?_ ?_
            rotate_left
            ·show Act.put _ (some 56) _ = _
             simp only [Act.put, List.setIfInBounds_toArray, List.set_cons_zero, List.set_cons_succ, i64_w, i32_w]
             rfl
            refine one_ (i := 4) (N := some 54) (tb_ 11 383) rfl rfl (one_of HT_.out (by kernel_rfl)) (by decide) (fun K hK => ?_)
            refine Kd.R_append_rows_step k109 (w0 := w) w.heap.size (by rfl) (.tmp 50) (.tmp 53) 102 109 (.agg #[(.string ⟨#[]⟩), (.int .i64 0)]) 24 rfl Try.underlying102 info109 rfl (by decide) (by omega) v1016 y1015 y1018 _ _ _ (fun k_ => (w.heap.size ≤ k_) ∧ some k_ ≠ (v1027 : Value).ownBlock ∧ k_ ≠ gb998) (fun _ => False) rfl rfl ?aO ?aR (fun _ _ h => h) (fun _ h => h.elim) ?aF ?aB ?aS ?aL ?_
            (case aR => repeat (first | exact (Kd.V_reads' HO1022.out).2.2 | (with_reducible refine Kd.C_alloc ?_ _) | (with_reducible refine Kd.C_drewN ?_ _) | (with_reducible refine Kd.C_drew ?_)))
            (case aB => exact (hs_ GE998.out))
            (case aF => exact (fun k_ hk => ⟨(Nat.le_trans (below_size (hs_ GE998.out)) hk), Kd.fresh' (Kd.R_lt (kR_ HO1028.out)) k_ hk, Kd.freshB (g := gb998) (o := .cells #[.string a1_0, .int .i64 a1_1] 109 (0, 0)) (kB_ BK998.out) k_ hk⟩))
            (case aO => exact (by refine kR_ ?_; exact Kd.R_mono HO1017.out (fun _ hk => ⟨hk.1.1.1, ⟨hk.2, hk.1.2⟩⟩)))
            (case aS => exact (below_size (hs_ GE998.out)))
            (case aL => have := LMc29.out; omega)
            intro v1024 w41 ho hb hg hat
            rw [← Ny1023.out] at ho
            have n0_ := Aside0.mk (Kd.V_afterv (ok := (fun k_ => (P0_ k_ ∨ w.heap.size ≤ k_) ∧ some k_ ≠ (v1027 : Value).ownBlock ∧ k_ ≠ gb998)) (by refine kV_ ?_; exact Kd.V_mono HO_0.out (fun _ hk => ⟨⟨hk.1.1.1, ⟨hk.2, hk.1.1.2⟩⟩, hk.1.2⟩)) hg hat)
            have n1_ := Aside0.mk (Kd.V_afterv (ok := (fun k_ => (P0_ k_ ∨ w.heap.size ≤ k_) ∧ some k_ ≠ (v1027 : Value).ownBlock ∧ k_ ≠ gb998)) (by refine kV_ ?_; exact Kd.V_mono HO_7.out (fun _ hk => ⟨⟨hk.1.1.1, ⟨hk.2, hk.1.1.2⟩⟩, hk.1.2⟩)) hg hat)
            have n2_ := Aside0.mk (blk_grown (g := gb998) (o := .cells #[.string a1_0, .int .i64 a1_1] 109 (0, 0)) (kB_ BK998.out) hg (Kd.R_away HO1017.out (fun _ hk => hk.1.2)))
            have n3_ := Aside0.mk (Kd.V_afterv (ok := (fun k_ => (P0_ k_ ∨ w.heap.size ≤ k_) ∧ some k_ ≠ (v1027 : Value).ownBlock ∧ k_ ≠ gb998)) (by refine kV_ ?_; exact Kd.V_mono HO1022.out (fun _ hk => ⟨⟨hk.1.1.1, ⟨hk.2, hk.1.1.2⟩⟩, hk.1.2⟩)) hg hat)
            have n4_ := Aside0.mk (Kd.R_after (ok := (fun k_ => (w.heap.size ≤ k_) ∧ k_ ≠ gb998)) (by refine kR_ ?_; exact Kd.R_mono HO1028.out (fun _ hk => ⟨⟨hk.1.1.1, hk.2⟩, hk.1.2⟩)) hg hat)
            have n5_ := Aside0.mk (hb)
            have n6_ := Aside0.mk (ho)
            clear HO_0
            clear HO_7
            clear BK998
            clear HO1022
            clear HO1028
            clear HB
            clear HO1017
            have HO_0 := n0_
            have HO_7 := n1_
            have BK998 := n2_
            have HO1022 := n3_
            have HO1028 := n4_
            have HB := n5_
            have HO1025 := n6_
            clear n0_ n1_ n2_ n3_ n4_ n5_ n6_
            clear ho hb hg hat
            refine hK.out _ _ ⟨(blk_cell BK998.out 0).trans rfl, (blk_cell BK998.out 1).trans rfl⟩ (fun hHeld => ?_)
            clear hK K
            refine norm_ (a' := ?_) ?_ ?_
            rotate_left
            ·show Act.put _ (some 54) _ = _
             simp only [Act.put, List.setIfInBounds_toArray, List.set_cons_zero, List.set_cons_succ, i64_w, i32_w]
             rfl
            exact norm_ (by simp only [putAll, Act.put, List.setIfInBounds_toArray, List.set_cons_zero, List.set_cons_succ]) (hCont (v1016, v1024, v1027) _ ⟨hHeld, (by refine kV_ ?_; exact Kd.V_mono HO1022.out (fun _ hk => ⟨hk.1.1, ⟨hk.2, ⟨hk.1.2.1, hk.1.2.2⟩⟩⟩)), (kR_ HO1025.out), (by refine kR_ ?_; exact Kd.R_mono HO1028.out (fun _ hk => ⟨hk.1.1, ⟨hk.2, hk.1.2⟩⟩)), (by refine kV_ ?_; exact Kd.V_mono HO_0.out (fun _ hk => ⟨hk.1.1, ⟨hk.2, ⟨hk.1.2.1, hk.1.2.2⟩⟩⟩)), (by refine kV_ ?_; exact Kd.V_mono HO_7.out (fun _ hk => ⟨hk.1.1, ⟨hk.2, ⟨hk.1.2.1, hk.1.2.2⟩⟩⟩)), (kB_ BK998.out), (hs_ GE998.out)⟩)
          ·skip
           refine Kd.R_lit_step k109 _ 109 ?hg (N := 56) ?hd (xs := ([(⟨a1_0, a1_1⟩ : S109)] : List (S109))) (inner := [.string a1_0, .int .i64 a1_1]) (ok := fun _ => True) (okp := fun _ => True) ?hr ?hp (fun _ hk => hk) trivial (Below.refl _ _) (Nat.le_refl _) (by simp) ?_; (case hd => rfl); (case hg => rfl); (case hr => first | (go_simp; done) | (go_simp; rfl)); (case hp => exact (Reps.c2 (show Kd.M k109 _ _ _ (⟨a1_0, a1_1⟩ : S109) [.string a1_0, .int .i64 a1_1] from (k109_mkM _ _ _ (⟨a1_0, a1_1⟩ : S109) )) (Reps.none _ _)))
           intro v1027 w37 ho38 hb hg_ hnew_
           clear hg_ hnew_
           (first | rw [← Ny1026.out] at ho38 | (simp only [Int.reduceToNat] at ho38; rw [← Ny1026.out] at ho38))
           replace HO_0 := Aside0.mk (Kd.V_elder' (kV_ HO_0.out) (Kd.R_base ho38) hb)
           replace HO_7 := Aside0.mk (Kd.V_elder' (kV_ HO_7.out) (Kd.R_base ho38) hb)
           replace HO1022 := Aside0.mk (Kd.V_elder' (kV_ HO1022.out) (Kd.R_base ho38) hb)
           have HO1028 := Aside0.mk (Kd.R_lower (Kd.R_newB (Kd.R_newM (M := fun k_ => (w.heap.size ≤ k_)) ho38 (below_size (hs_ GE998.out)) (fun k_ h_ => h_)) (g := gb998) (o := .cells #[.string a1_0, .int .i64 a1_1] 109 (0, 0)) (kB_ BK998.out)) (below_size (hs_ GE998.out)))
           replace BK998 := Aside0.mk (blk_below (g := gb998) (o := .cells #[.string a1_0, .int .i64 a1_1] 109 (0, 0)) (kB_ BK998.out) hb)
           replace HB := Aside0.mk (below_step (hs_ GE998.out) hb)
           clear hb ho38
           refine hK.out _ _ ⟨(blk_cell BK998.out 0).trans rfl, (blk_cell BK998.out 1).trans rfl⟩ (fun hHeld => ?_)
           clear hK K
           refine norm_ (a' := ?_) ?_ ?_
           rotate_left
           ·show Act.put _ (some 56) _ = _
            simp only [Act.put, List.setIfInBounds_toArray, List.set_cons_zero, List.set_cons_succ, i64_w, i32_w]
            rfl
           refine one_ (i := 0) (N := some 50) (tb_ 11 367) rfl rfl (one_of HT_.out (by kernel_rfl)) (by decide) (fun K hK => ?_)
           refine Kd.R_lit_step k109 _ 109 ?hg (N := 50) ?hd (xs := ([] : List (S109))) (inner := []) (ok := fun _ => True) (okp := fun _ => True) ?hr ?hp (fun _ hk => hk) trivial (Below.refl _ _) (Nat.le_refl _) (by simp) ?_; (case hd => rfl); (case hg => rfl); (case hr => first | (go_simp; done) | (go_simp; rfl)); (case hp => exact (Reps.none _ _))
           intro v1016 w39 ho40 hb hg_ hnew_
           clear hg_ hnew_
           (first | rw [← Ny1015.out] at ho40 | (simp only [Int.reduceToNat] at ho40; rw [← Ny1015.out] at ho40))
           replace HO_0 := Aside0.mk (Kd.V_elder' (kV_ HO_0.out) (Kd.R_base ho40) hb)
           replace HO_7 := Aside0.mk (Kd.V_elder' (kV_ HO_7.out) (Kd.R_base ho40) hb)
           replace HO1022 := Aside0.mk (Kd.V_elder' (kV_ HO1022.out) (Kd.R_base ho40) hb)
           have HO1017 := Aside0.mk (Kd.R_lower (Kd.R_newB (Kd.R_new' (Kd.R_newM (M := fun k_ => (w.heap.size ≤ k_)) ho40 (below_size (hs_ GE998.out)) (fun k_ h_ => h_)) (Kd.R_lt (kR_ HO1028.out))) (g := gb998) (o := .cells #[.string a1_0, .int .i64 a1_1] 109 (0, 0)) (kB_ BK998.out)) (below_size (hs_ GE998.out)))
           replace HO1028 := Aside0.mk (Kd.R_elder' (kR_ HO1028.out) (Kd.R_base ho40) hb)
           replace BK998 := Aside0.mk (blk_below (g := gb998) (o := .cells #[.string a1_0, .int .i64 a1_1] 109 (0, 0)) (kB_ BK998.out) hb)
           replace HB := Aside0.mk (below_step (hs_ GE998.out) hb)
           clear hb ho40
           refine hK.out _ _ ⟨(blk_cell BK998.out 0).trans rfl, (blk_cell BK998.out 1).trans rfl⟩ (fun hHeld => ?_)
           clear hK K
           refine norm_ (a' := ?_) ?_ ?_
           rotate_left
           ·show Act.put _ (some 50) _ = _
            simp only [Act.put, List.setIfInBounds_toArray, List.set_cons_zero, List.set_cons_succ, i64_w, i32_w]
            rfl
           refine one_ (i := 4) (N := some 54) (tb_ 11 383) rfl rfl (one_of HT_.out (by kernel_rfl)) (by decide) (fun K hK => ?_)
           refine Kd.R_append_rows_step k109 (w0 := w) w.heap.size (by rfl) (.tmp 50) (.tmp 53) 102 109 (.agg #[(.string ⟨#[]⟩), (.int .i64 0)]) 24 rfl Try.underlying102 info109 rfl (by decide) (by omega) v1016 y1015 y1018 _ _ _ (fun k_ => (w.heap.size ≤ k_) ∧ some k_ ≠ (v1027 : Value).ownBlock ∧ k_ ≠ gb998) (fun _ => False) rfl rfl ?aO ?aR (fun _ _ h => h) (fun _ h => h.elim) ?aF ?aB ?aS ?aL ?_
           (case aR => repeat (first | exact (Kd.V_reads' HO1022.out).2.2 | (with_reducible refine Kd.C_alloc ?_ _) | (with_reducible refine Kd.C_drewN ?_ _) | (with_reducible refine Kd.C_drew ?_)))
           (case aB => exact (hs_ GE998.out))
           (case aF => exact (fun k_ hk => ⟨(Nat.le_trans (below_size (hs_ GE998.out)) hk), Kd.fresh' (Kd.R_lt (kR_ HO1028.out)) k_ hk, Kd.freshB (g := gb998) (o := .cells #[.string a1_0, .int .i64 a1_1] 109 (0, 0)) (kB_ BK998.out) k_ hk⟩))
           (case aO => exact (by refine kR_ ?_; exact Kd.R_mono HO1017.out (fun _ hk => ⟨hk.1.1.1, ⟨hk.1.2, hk.2⟩⟩)))
           (case aS => exact (below_size (hs_ GE998.out)))
           (case aL => have := LMc29.out; omega)
           intro v1024 w41 ho hb hg hat
           rw [← Ny1023.out] at ho
           have n0_ := Aside0.mk (Kd.V_afterv (ok := (fun k_ => (P0_ k_ ∨ w.heap.size ≤ k_) ∧ some k_ ≠ (v1027 : Value).ownBlock ∧ k_ ≠ gb998)) (by refine kV_ ?_; exact Kd.V_mono HO_0.out (fun _ hk => ⟨⟨hk.1.1.1, ⟨hk.1.2, hk.1.1.2⟩⟩, hk.2⟩)) hg hat)
           have n1_ := Aside0.mk (Kd.V_afterv (ok := (fun k_ => (P0_ k_ ∨ w.heap.size ≤ k_) ∧ some k_ ≠ (v1027 : Value).ownBlock ∧ k_ ≠ gb998)) (by refine kV_ ?_; exact Kd.V_mono HO_7.out (fun _ hk => ⟨⟨hk.1.1.1, ⟨hk.1.2, hk.1.1.2⟩⟩, hk.2⟩)) hg hat)
           have n2_ := Aside0.mk (blk_grown (g := gb998) (o := .cells #[.string a1_0, .int .i64 a1_1] 109 (0, 0)) (kB_ BK998.out) hg (Kd.R_away HO1017.out (fun _ hk => hk.2)))
           have n3_ := Aside0.mk (Kd.V_afterv (ok := (fun k_ => (P0_ k_ ∨ w.heap.size ≤ k_) ∧ some k_ ≠ (v1027 : Value).ownBlock ∧ k_ ≠ gb998)) (by refine kV_ ?_; exact Kd.V_mono HO1022.out (fun _ hk => ⟨⟨hk.1.1.1, ⟨hk.1.2, hk.1.1.2⟩⟩, hk.2⟩)) hg hat)
           have n4_ := Aside0.mk (Kd.R_after (ok := (fun k_ => (w.heap.size ≤ k_) ∧ k_ ≠ gb998)) (by refine kR_ ?_; exact Kd.R_mono HO1028.out (fun _ hk => ⟨⟨hk.1.1.1, hk.1.2⟩, hk.2⟩)) hg hat)
           have n5_ := Aside0.mk (hb)
           have n6_ := Aside0.mk (ho)
           clear HO_0
           clear HO_7
           clear BK998
           clear HO1022
           clear HO1028
           clear HB
           clear HO1017
           have HO_0 := n0_
           have HO_7 := n1_
           have BK998 := n2_
           have HO1022 := n3_
           have HO1028 := n4_
           have HB := n5_
           have HO1025 := n6_
           clear n0_ n1_ n2_ n3_ n4_ n5_ n6_
           clear ho hb hg hat
           refine hK.out _ _ ⟨(blk_cell BK998.out 0).trans rfl, (blk_cell BK998.out 1).trans rfl⟩ (fun hHeld => ?_)
           clear hK K
           refine norm_ (a' := ?_) ?_ ?_
           rotate_left
           ·show Act.put _ (some 54) _ = _
            simp only [Act.put, List.setIfInBounds_toArray, List.set_cons_zero, List.set_cons_succ, i64_w, i32_w]
            rfl
           exact norm_ (by simp only [putAll, Act.put, List.setIfInBounds_toArray, List.set_cons_zero, List.set_cons_succ]) (hCont (v1016, v1024, v1027) _ ⟨hHeld, (by refine kV_ ?_; exact Kd.V_mono HO1022.out (fun _ hk => ⟨hk.1.1, ⟨hk.2, ⟨hk.1.2.1, hk.1.2.2⟩⟩⟩)), (kR_ HO1025.out), (by refine kR_ ?_; exact Kd.R_mono HO1028.out (fun _ hk => ⟨hk.1.1, ⟨hk.2, hk.1.2⟩⟩)), (by refine kV_ ?_; exact Kd.V_mono HO_0.out (fun _ hk => ⟨hk.1.1, ⟨hk.2, ⟨hk.1.2.1, hk.1.2.2⟩⟩⟩)), (by refine kV_ ?_; exact Kd.V_mono HO_7.out (fun _ hk => ⟨hk.1.1, ⟨hk.2, ⟨hk.1.2.1, hk.1.2.2⟩⟩⟩)), (kB_ BK998.out), (hs_ GE998.out)⟩)
         rintro ⟨v1016, v1024, v1027⟩ w42 ⟨hS_, h0_, h1_, h2_, h3_, h4_, h5_, h6_⟩
         have n0_ : Aside0 (Kd.V k109 109 w42 w.heap.size (fun k_ => (P0_ k_ ∨ w.heap.size ≤ k_) ∧ some k_ ≠ (v1024 : Value).ownBlock ∧ some k_ ≠ (v1027 : Value).ownBlock ∧ k_ ≠ gb998) (.slice A0 y1018.length c0) y1018) := ⟨h0_⟩
         have n1_ : Aside0 (Kd.R k109 109 w42 w.heap.size (fun k_ => (w.heap.size ≤ k_) ∧ some k_ ≠ (v1027 : Value).ownBlock ∧ k_ ≠ gb998) v1024 y1023) := ⟨h1_⟩
         have n2_ : Aside0 (Kd.R k109 109 w42 w.heap.size (fun k_ => (w.heap.size ≤ k_) ∧ some k_ ≠ (v1024 : Value).ownBlock ∧ k_ ≠ gb998) v1027 y1026) := ⟨h2_⟩
         have n3_ : Aside0 (Kd.V k109 109 w42 w.heap.size (fun k_ => (P0_ k_ ∨ w.heap.size ≤ k_) ∧ some k_ ≠ (v1024 : Value).ownBlock ∧ some k_ ≠ (v1027 : Value).ownBlock ∧ k_ ≠ gb998) (.slice A0 l0.length c0) l0) := ⟨h3_⟩
         have n4_ : Aside0 (Kd.V k109 109 w42 w.heap.size (fun k_ => (P0_ k_ ∨ w.heap.size ≤ k_) ∧ some k_ ≠ (v1024 : Value).ownBlock ∧ some k_ ≠ (v1027 : Value).ownBlock ∧ k_ ≠ gb998) (.slice Ao34 x7_20.length co34) x7_20) := ⟨h4_⟩
         have n5_ : Aside0 (w42.heap[gb998]? = some (.cells #[.string a1_0, .int .i64 a1_1] 109 (0, 0))) := ⟨h5_⟩
         have n6_ : Aside0 (Below w.heap.size w w42) := ⟨h6_⟩
         clear HO_0
         clear HO_7
         clear BK998
         clear HB
         clear h0_ h1_ h2_ h3_ h4_ h5_ h6_
         have HO1022 := n0_
         have HO1025 := n1_
         have HO1028 := n2_
         have HO_0 := n3_
         have HO_7 := n4_
         have BK998 := n5_
         have HB := n6_
         clear n0_ n1_ n2_ n3_ n4_ n5_ n6_
         have hHeld : w42.cell? ⟨gb998, 0, none⟩ = some (.string a1_0) ∧ w42.cell? ⟨gb998, 1, none⟩ = some (.int .i64 a1_1) := hS_
         obtain ⟨Ao44, co44, eo44⟩ := Kd.R_slice HO1028.out
         (first | subst eo44 | (injection eo44 with f1_ f2_ f3_; have f4_ := f1_.symm; have f5_ := f3_.symm; clear f1_ f2_ f3_; subst f4_; subst f5_))
         refine norm_ (a' := ?_) ?_ ?_
         rotate_left
         ·simp only [putAll, Act.put, List.setIfInBounds_toArray, List.set_cons_zero, List.set_cons_succ]
          rfl
         refine one_ (i := 7) (N := some 57) (tf_ 9 2) rfl rfl (one_of HT_.out (by kernel_rfl)) (by decide) (fun K hK => ?_)
         refine Kd.R_append_rows_step k109 (w0 := w) w.heap.size (by rfl) (.tmp 54) (.tmp 56) 102 109 (.agg #[(.string ⟨#[]⟩), (.int .i64 0)]) 24 rfl Try.underlying102 info109 rfl (by decide) (by omega) v1024 y1023 y1026 _ _ _ (fun k_ => (w.heap.size ≤ k_) ∧ some k_ ≠ (.slice Ao44 y1026.length co44 : Value).ownBlock ∧ k_ ≠ gb998) (fun _ => False) rfl rfl ?aO ?aR (fun _ _ h => h) (fun _ h => h.elim) ?aF ?aB ?aS ?aL ?_
         (case aR => repeat (first | exact (Kd.R_reads' HO1028.out).2.2 | (with_reducible refine Kd.C_alloc ?_ _) | (with_reducible refine Kd.C_drewN ?_ _) | (with_reducible refine Kd.C_drew ?_)))
         (case aB => exact (hs_ GE998.out))
         (case aF => exact (fun k_ hk => ⟨(Nat.le_trans (below_size (hs_ GE998.out)) hk), Kd.fresh' (Kd.R_lt (kR_ HO1028.out)) k_ hk, Kd.freshB (g := gb998) (o := .cells #[.string a1_0, .int .i64 a1_1] 109 (0, 0)) (kB_ BK998.out) k_ hk⟩))
         (case aO => exact (kR_ HO1025.out))
         (case aS => exact (below_size (hs_ GE998.out)))
         (case aL => have := LMc30.out; omega)
         intro v1030 w43 ho hb hg hat
         rw [← Ny1029.out] at ho
         have n0_ := Aside0.mk (Kd.V_afterv (ok := (fun k_ => (P0_ k_ ∨ w.heap.size ≤ k_) ∧ some k_ ≠ (.slice Ao44 y1026.length co44 : Value).ownBlock ∧ k_ ≠ gb998)) (by refine kV_ ?_; exact Kd.V_mono HO_0.out (fun _ hk => ⟨⟨hk.1, ⟨hk.2.2.1, hk.2.2.2⟩⟩, hk.2.1⟩)) hg hat)
         have n1_ := Aside0.mk (Kd.V_afterv (ok := (fun k_ => (P0_ k_ ∨ w.heap.size ≤ k_) ∧ some k_ ≠ (.slice Ao44 y1026.length co44 : Value).ownBlock ∧ k_ ≠ gb998)) (by refine kV_ ?_; exact Kd.V_mono HO_7.out (fun _ hk => ⟨⟨hk.1, ⟨hk.2.2.1, hk.2.2.2⟩⟩, hk.2.1⟩)) hg hat)
         have n2_ := Aside0.mk (blk_grown (g := gb998) (o := .cells #[.string a1_0, .int .i64 a1_1] 109 (0, 0)) (kB_ BK998.out) hg (Kd.R_away HO1025.out (fun _ hk => hk.2.2)))
         have n3_ := Aside0.mk (Kd.V_afterv (ok := (fun k_ => (P0_ k_ ∨ w.heap.size ≤ k_) ∧ some k_ ≠ (.slice Ao44 y1026.length co44 : Value).ownBlock ∧ k_ ≠ gb998)) (by refine kV_ ?_; exact Kd.V_mono HO1022.out (fun _ hk => ⟨⟨hk.1, ⟨hk.2.2.1, hk.2.2.2⟩⟩, hk.2.1⟩)) hg hat)
         have n4_ := Aside0.mk (Kd.R_after (ok := (fun k_ => (w.heap.size ≤ k_) ∧ k_ ≠ gb998)) (by refine kR_ ?_; exact Kd.R_mono HO1028.out (fun _ hk => ⟨⟨hk.1, hk.2.2⟩, hk.2.1⟩)) hg hat)
         have n5_ := Aside0.mk (hb)
         have n6_ := Aside0.mk (ho)
         clear HO_0
         clear HO_7
         clear BK998
         clear HO1022
         clear HO1028
         clear HB
         clear HO1025
         have HO_0 := n0_
         have HO_7 := n1_
         have BK998 := n2_
         have HO1022 := n3_
         have HO1028 := n4_
         have HB := n5_
         have HO1031 := n6_
         clear n0_ n1_ n2_ n3_ n4_ n5_ n6_
         clear ho hb hg hat
         refine hK.out _ _ ⟨(blk_cell BK998.out 0).trans rfl, (blk_cell BK998.out 1).trans rfl⟩ (fun hHeld => ?_)
         clear hK K
         refine norm_ (a' := ?_) ?_ ?_
         rotate_left
         ·show Act.put _ (some 57) _ = _
          simp only [Act.put, List.setIfInBounds_toArray, List.set_cons_zero, List.set_cons_succ, i64_w, i32_w]
          rfl
         refine one_ (i := 9) (N := some 59) (tf_ 10 1) rfl rfl (one_of HT_.out (by kernel_rfl)) (by decide) (fun K hK => ?_)
         refine Kd.R_append_rows_step k109 (w0 := w) w.heap.size (by rfl) (.tmp 57) (.tmp 58) 102 109 (.agg #[(.string ⟨#[]⟩), (.int .i64 0)]) 24 rfl Try.underlying102 info109 rfl (by decide) (by omega) v1030 y1029 x7_20 _ _ _ (fun k_ => (w.heap.size ≤ k_) ∧ some k_ ≠ (.slice Ao44 y1026.length co44 : Value).ownBlock ∧ k_ ≠ gb998) (fun _ => False) rfl rfl ?aO ?aR (fun _ _ h => h) (fun _ h => h.elim) ?aF ?aB ?aS ?aL ?_
         (case aR => repeat (first | exact (Kd.V_reads' HO_7.out).2.2 | (with_reducible refine Kd.C_alloc ?_ _) | (with_reducible refine Kd.C_drewN ?_ _) | (with_reducible refine Kd.C_drew ?_)))
         (case aB => exact (hs_ GE998.out))
         (case aF => exact (fun k_ hk => ⟨(Nat.le_trans (below_size (hs_ GE998.out)) hk), Kd.fresh' (Kd.R_lt (kR_ HO1028.out)) k_ hk, Kd.freshB (g := gb998) (o := .cells #[.string a1_0, .int .i64 a1_1] 109 (0, 0)) (kB_ BK998.out) k_ hk⟩))
         (case aO => exact (kR_ HO1031.out))
         (case aS => exact (below_size (hs_ GE998.out)))
         (case aL => have := LMc31.out; omega)
         intro v1033 w45 ho hb hg hat
         rw [← Ny1032.out] at ho
         have n0_ := Aside0.mk (Kd.V_afterv (ok := (fun k_ => (P0_ k_ ∨ w.heap.size ≤ k_) ∧ some k_ ≠ (.slice Ao44 y1026.length co44 : Value).ownBlock ∧ k_ ≠ gb998)) (kV_ HO_0.out) hg hat)
         have n1_ := Aside0.mk (Kd.V_afterv (ok := (fun k_ => (P0_ k_ ∨ w.heap.size ≤ k_) ∧ some k_ ≠ (.slice Ao44 y1026.length co44 : Value).ownBlock ∧ k_ ≠ gb998)) (kV_ HO_7.out) hg hat)
         have n2_ := Aside0.mk (blk_grown (g := gb998) (o := .cells #[.string a1_0, .int .i64 a1_1] 109 (0, 0)) (kB_ BK998.out) hg (Kd.R_away HO1031.out (fun _ hk => hk.2.2)))
         have n3_ := Aside0.mk (Kd.V_afterv (ok := (fun k_ => (P0_ k_ ∨ w.heap.size ≤ k_) ∧ some k_ ≠ (.slice Ao44 y1026.length co44 : Value).ownBlock ∧ k_ ≠ gb998)) (kV_ HO1022.out) hg hat)
         have n4_ := Aside0.mk (Kd.R_after (ok := (fun k_ => (w.heap.size ≤ k_) ∧ k_ ≠ gb998)) (kR_ HO1028.out) hg hat)
         have n5_ := Aside0.mk (hb)
         have n6_ := Aside0.mk (ho)
         clear HO_0
         clear HO_7
         clear BK998
         clear HO1022
         clear HO1028
         clear HB
         clear HO1031
         have HO_0 := n0_
         have HO_7 := n1_
         have BK998 := n2_
         have HO1022 := n3_
         have HO1028 := n4_
         have HB := n5_
         have HO1034 := n6_
         clear n0_ n1_ n2_ n3_ n4_ n5_ n6_
         clear ho hb hg hat
         refine hK.out _ _ ⟨(blk_cell BK998.out 0).trans rfl, (blk_cell BK998.out 1).trans rfl⟩ (fun hHeld => ?_)
         clear hK K
         refine norm_ (a' := ?_) ?_ ?_
         rotate_left
         ·show Act.put _ (some 59) _ = _
          simp only [Act.put, List.setIfInBounds_toArray, List.set_cons_zero, List.set_cons_succ, i64_w, i32_w]
          rfl
         refine paA_ 10 8 11 0 ?_
         refine done_ (done_of HT_.out (by kernel_rfl)) ?_
         obtain ⟨Ao46, co46, eo46⟩ := Kd.R_slice HO1034.out
         subst eo46
         try go_wp2_with (first | ((with_reducible refine gate_callee (f := 103) rfl ?_); refine gl_ (some 61) Try.func103 #[.slice Ao46 y1032.length co46] ?_; (with_reducible refine (spec_EntriesValid.calls kj20 _ _ y1032 true _ ?side1 ?side2 A32.out).mono ?_); (case side1 => exact kC_ ((Kd.R_reads' HO1034.out).2.2)); (case side2 => exact (Kd.R_reads' HO1034.out).2.1); rintro e w47 ⟨rfl, hb⟩; refine ⟨_, rfl, ?_⟩; have n0_ := Aside0.mk (Kd.V_below (kV_ HO_0.out) hb); have n1_ := Aside0.mk (Kd.V_below (kV_ HO_7.out) hb); have n2_ := Aside0.mk (Kd.V_below (kV_ HO1022.out) hb); have n3_ := Aside0.mk (Kd.R_below (kR_ HO1028.out) hb); have n4_ := Aside0.mk (Kd.R_below (kR_ HO1034.out) hb); have n5_ := Aside0.mk (blk_below (g := gb998) (o := .cells #[.string a1_0, .int .i64 a1_1] 109 (0, 0)) (kB_ BK998.out) hb); have n6_ := Aside0.mk (below_step (hs_ GE998.out) hb); clear HO_0; clear HO_7; clear HO1022; clear HO1028; clear HO1034; clear BK998; clear HB; have HO_0 := n0_; have HO_7 := n1_; have HO1022 := n2_; have HO1028 := n3_; have HO1034 := n4_; have BK998 := n5_; have HB := n6_; clear n0_ n1_ n2_ n3_ n4_ n5_ n6_; (try clear hb)))
         go_ret2
         exact ⟨_, er_, by refine kR_ ?_; exact Kd.R_mono HO1034.out (fun _ hk => hk.1), hs_ GE998.out⟩
        ·replace c33 := Bool.eq_false_iff.mpr c33
         subst c33
         have H1 : ((some (([] : List (S109)) : List (S109))).bind fun y1036 => (if y1036.length + l0.length < 5864062014805 then (some ((y1036 ++ l0), false)) else (none))) = some (r1, r2) := by rw [if_neg (show ¬ (false = true) by decide)] at H; exact H
         clear H
         have H := H1
         clear H1
         obtain ⟨y1036, hy1036⟩ : ∃ y_ : List (S109), y_ = (([] : List (S109))) := ⟨_, rfl⟩
         replace H : (if y1036.length + l0.length < 5864062014805 then (some ((y1036 ++ l0), false)) else (none)) = some (r1, r2) := hq_ hy1036 H
         have Ny1036 := Aside0.mk hy1036
         clear hy1036
         by_cases c48 : y1036.length + l0.length < 5864062014805; rotate_left
         ·rw [if_neg c48] at H; exact absurd H (by simp)
         rw [if_pos c48] at H
         have LMc48 := Aside0.mk c48
         clear c48
         obtain ⟨y1039, hy1039⟩ : ∃ y_ : List (S109), y_ = (y1036 ++ l0) := ⟨_, rfl⟩
         replace H : (some (y1039, false)) = some (r1, r2) := hq_ hy1039 H
         have Ny1039 := Aside0.mk hy1039
         clear hy1039
         simp only [Option.some.injEq, Prod.mk.injEq] at H
         obtain ⟨rfl, rfl⟩ := H
         obtain ⟨Ao49, co49, eo49⟩ := Kd.V_slice HO_7.out
         subst eo49
         try go_wp2
         replace HO_0 := Aside0.mk (Kd.V_drew HO_0.out)
         replace HO_7 := Aside0.mk (Kd.V_drew HO_7.out)
         replace BK998 := Aside0.mk (blk_drew BK998.out)
         replace HB := Aside0.mk (below_drew1 HB.out)
         have q51 : (x6_4 : Int) ≤ ((l0.length : Int) : Int) := dt_
         obtain ⟨i051, hi051, _, hsz51, _⟩ := info_parts info109
         have hroom51 : l0.length ≤ c0 := (Kd.V_reads' HO_0.out).2.1
         have hC51 : Kd.F k109 _ _ A0 l0.length l0 := (Kd.V_at (base := w.heap.size) HO_0.out).2.2
         have hcut51 := cut_to (P := Try.prog) 102 109 .i64 Try.underlying102 hi051 A0 l0.length c0 x6_4 (dt_) q51 hroom51
         have hr51 := Kd.F_take (m := (x6_4 : Int).toNat) hC51 (by omega)
         have hy51 : y1018.length = (x6_4 : Int).toNat := (by rw [Ny1018.out, List.length_take]; omega)
         rw [← Ny1018.out] at hr51
         rw [← hy51] at hcut51
         have HO1022 := Aside0.mk (show Kd.V k109 109 _ w.heap.size _ (.slice A0 y1018.length c0) y1018 from Kd.V_mk (by omega) hr51)
         have HC1022 := Aside0.mk (show y1018.length ≤ c0 from by omega)
         clear hr51 hC51 hroom51 hi051 hsz51
         have KY51 := Aside0.mk hy51
         clear hy51
         replace q51 := eq_true q51
         refine start_ (n := 11) (S := fun w' => w'.cell? ⟨gb998, 0, none⟩ = some (.string a1_0) ∧ w'.cell? ⟨gb998, 1, none⟩ = some (.int .i64 a1_1)) (ds := []) (tf_ 0 11) (by kernel_rfl) rfl rfl ⟨(blk_cell BK998.out 0).trans rfl, (blk_cell BK998.out 1).trans rfl⟩ (fun hHeld => ?_); refine with_tabW spec_PutEntry.tab9 spec_PutEntry.bits9 (fun HT_ HW_ => ?_)
         generalize wc.drew = w50 at HO_0 HO_7 BK998 HB HO1022 hHeld ⊢
         refine pa_ (i := 1) (N := some 51) (tb_ 11 2) ?_
         refine pa_ (i := 2) (N := some 52) (tb_ 11 6) ?_
         refine pa_ (i := 3) (N := some 53) (tb_ 11 14) ?_
         refine pa_ (i := 8) (N := some 58) (tb_ 11 270) ?_
         refine ta2_ (i := 5) (N := some 55) (tb_ 11 302) ?_
         refine join_ (σ := Value × Value × Value) 3 (tb_ 11 383) (fun s_ => [(50, s_.1), (54, s_.2.1), (56, s_.2.2)]) (fun s_ w' => (w'.cell? ⟨gb998, 0, none⟩ = some (.string a1_0) ∧ w'.cell? ⟨gb998, 1, none⟩ = some (.int .i64 a1_1)) ∧ (Kd.V k109 109 w' w.heap.size (fun k_ => (P0_ k_ ∨ w.heap.size ≤ k_) ∧ some k_ ≠ (s_.2.1 : Value).ownBlock ∧ some k_ ≠ (s_.2.2 : Value).ownBlock ∧ k_ ≠ gb998) (.slice A0 y1018.length c0) y1018) ∧ (Kd.R k109 109 w' w.heap.size (fun k_ => (w.heap.size ≤ k_) ∧ some k_ ≠ (s_.2.2 : Value).ownBlock ∧ k_ ≠ gb998) s_.2.1 y1023) ∧ (Kd.R k109 109 w' w.heap.size (fun k_ => (w.heap.size ≤ k_) ∧ some k_ ≠ (s_.2.1 : Value).ownBlock ∧ k_ ≠ gb998) s_.2.2 y1026) ∧ (Kd.V k109 109 w' w.heap.size (fun k_ => (P0_ k_ ∨ w.heap.size ≤ k_) ∧ some k_ ≠ (s_.2.1 : Value).ownBlock ∧ some k_ ≠ (s_.2.2 : Value).ownBlock ∧ k_ ≠ gb998) (.slice A0 l0.length c0) l0) ∧ (Kd.V k109 109 w' w.heap.size (fun k_ => (P0_ k_ ∨ w.heap.size ≤ k_) ∧ some k_ ≠ (s_.2.1 : Value).ownBlock ∧ some k_ ≠ (s_.2.2 : Value).ownBlock ∧ k_ ≠ gb998) (.slice Ao49 x7_20.length co49) x7_20) ∧ (w'.heap[gb998]? = some (.cells #[.string a1_0, .int .i64 a1_1] 109 (0, 0))) ∧ (Below w.heap.size w w')) ?_ ?_
         rotate_left
         ·intro hCont
          refine two_ (i := 0) (j := 6) (Ni := some 50) (Nj := some 56) (tb_ 11 303) (tb_ 11 366) rfl rfl rfl rfl (two_of HT_.out (by kernel_rfl)) (by decide) (by decide) (fun K hK => ?_) (fun K hK => ?_)
          ·skip
           refine Kd.R_lit_step k109 _ 109 ?hg (N := 50) ?hd (xs := ([] : List (S109))) (inner := []) (ok := fun _ => True) (okp := fun _ => True) ?hr ?hp (fun _ hk => hk) trivial (Below.refl _ _) (Nat.le_refl _) (by simp) ?_; (case hd => rfl); (case hg => rfl); (case hr => first | (go_simp; done) | (go_simp; rfl)); (case hp => exact (Reps.none _ _))
           intro v1016 w52 ho53 hb hg_ hnew_
           clear hg_ hnew_
           (first | rw [← Ny1015.out] at ho53 | (simp only [Int.reduceToNat] at ho53; rw [← Ny1015.out] at ho53))
           replace HO_0 := Aside0.mk (Kd.V_elder' (kV_ HO_0.out) (Kd.R_base ho53) hb)
           replace HO_7 := Aside0.mk (Kd.V_elder' (kV_ HO_7.out) (Kd.R_base ho53) hb)
           replace HO1022 := Aside0.mk (Kd.V_elder' (kV_ HO1022.out) (Kd.R_base ho53) hb)
           have HO1017 := Aside0.mk (Kd.R_lower (Kd.R_newB (Kd.R_newM (M := fun k_ => (w.heap.size ≤ k_)) ho53 (below_size (hs_ GE998.out)) (fun k_ h_ => h_)) (g := gb998) (o := .cells #[.string a1_0, .int .i64 a1_1] 109 (0, 0)) (kB_ BK998.out)) (below_size (hs_ GE998.out)))
           replace BK998 := Aside0.mk (blk_below (g := gb998) (o := .cells #[.string a1_0, .int .i64 a1_1] 109 (0, 0)) (kB_ BK998.out) hb)
           replace HB := Aside0.mk (below_step (hs_ GE998.out) hb)
           clear hb ho53
           refine hK.out _ _ ⟨(blk_cell BK998.out 0).trans rfl, (blk_cell BK998.out 1).trans rfl⟩ (fun hHeld => ?_)
           clear hK K
           refine norm_ (a' := ?_) ?_ ?_
           rotate_left
           ·show Act.put _ (some 50) _ = _
            simp only [Act.put, List.setIfInBounds_toArray, List.set_cons_zero, List.set_cons_succ, i64_w, i32_w]
            rfl
           refine two_ (i := 4) (j := 6) (Ni := some 54) (Nj := some 56) (tb_ 11 319) (tb_ 11 367) rfl rfl rfl rfl (two_of HT_.out (by kernel_rfl)) (by decide) (by decide) (fun K hK => ?_) (fun K hK => ?_)
           ·skip
            refine Kd.R_append_rows_step k109 (w0 := w) w.heap.size (by rfl) (.tmp 50) (.tmp 53) 102 109 (.agg #[(.string ⟨#[]⟩), (.int .i64 0)]) 24 rfl Try.underlying102 info109 rfl (by decide) (by omega) v1016 y1015 y1018 _ _ _ (fun k_ => (w.heap.size ≤ k_) ∧ k_ ≠ gb998) (fun _ => False) rfl rfl ?aO ?aR (fun _ _ h => h) (fun _ h => h.elim) ?aF ?aB ?aS ?aL ?_
            (case aR => repeat (first | exact (Kd.V_reads' HO1022.out).2.2 | (with_reducible refine Kd.C_alloc ?_ _) | (with_reducible refine Kd.C_drewN ?_ _) | (with_reducible refine Kd.C_drew ?_)))
            (case aB => exact (hs_ GE998.out))
            (case aF => exact (fun k_ hk => ⟨(Nat.le_trans (below_size (hs_ GE998.out)) hk), Kd.freshB (g := gb998) (o := .cells #[.string a1_0, .int .i64 a1_1] 109 (0, 0)) (kB_ BK998.out) k_ hk⟩))
            (case aO => exact (by refine kR_ ?_; exact Kd.R_mono HO1017.out (fun _ hk => ⟨hk.1.1, hk.2⟩)))
            (case aS => exact (below_size (hs_ GE998.out)))
            (case aL => have := LMc29.out; omega)
            intro v1024 w54 ho hb hg hat
            rw [← Ny1023.out] at ho
            have n0_ := Aside0.mk (Kd.V_afterv (ok := (fun k_ => (P0_ k_ ∨ w.heap.size ≤ k_) ∧ k_ ≠ gb998)) (kV_ HO_0.out) hg hat)
            have n1_ := Aside0.mk (Kd.V_afterv (ok := (fun k_ => (P0_ k_ ∨ w.heap.size ≤ k_) ∧ k_ ≠ gb998)) (kV_ HO_7.out) hg hat)
            have n2_ := Aside0.mk (blk_grown (g := gb998) (o := .cells #[.string a1_0, .int .i64 a1_1] 109 (0, 0)) (kB_ BK998.out) hg (Kd.R_away HO1017.out (fun _ hk => hk.2)))
            have n3_ := Aside0.mk (Kd.V_afterv (ok := (fun k_ => (P0_ k_ ∨ w.heap.size ≤ k_) ∧ k_ ≠ gb998)) (kV_ HO1022.out) hg hat)
            have n4_ := Aside0.mk (hb)
            have n5_ := Aside0.mk (ho)
            clear HO_0
            clear HO_7
            clear BK998
            clear HO1022
            clear HB
            clear HO1017
            have HO_0 := n0_
            have HO_7 := n1_
            have BK998 := n2_
            have HO1022 := n3_
            have HB := n4_
            have HO1025 := n5_
            clear n0_ n1_ n2_ n3_ n4_ n5_
            clear ho hb hg hat
            refine hK.out _ _ ⟨(blk_cell BK998.out 0).trans rfl, (blk_cell BK998.out 1).trans rfl⟩ (fun hHeld => ?_)
            clear hK K
            refine norm_ (a' := ?_) ?_ ?_
            rotate_left
            ·show Act.put _ (some 54) _ = _
             simp only [Act.put, List.setIfInBounds_toArray, List.set_cons_zero, List.set_cons_succ, i64_w, i32_w]
             rfl
            refine one_ (i := 6) (N := some 56) (tb_ 11 383) rfl rfl (one_of HT_.out (by kernel_rfl)) (by decide) (fun K hK => ?_)
            refine Kd.R_lit_step k109 _ 109 ?hg (N := 56) ?hd (xs := ([(⟨a1_0, a1_1⟩ : S109)] : List (S109))) (inner := [.string a1_0, .int .i64 a1_1]) (ok := fun _ => True) (okp := fun _ => True) ?hr ?hp (fun _ hk => hk) trivial (Below.refl _ _) (Nat.le_refl _) (by simp) ?_; (case hd => rfl); (case hg => rfl); (case hr => first | (go_simp; done) | (go_simp; rfl)); (case hp => exact (Reps.c2 (show Kd.M k109 _ _ _ (⟨a1_0, a1_1⟩ : S109) [.string a1_0, .int .i64 a1_1] from (k109_mkM _ _ _ (⟨a1_0, a1_1⟩ : S109) )) (Reps.none _ _)))
            intro v1027 w55 ho56 hb hg_ hnew_
            clear hg_ hnew_
            (first | rw [← Ny1026.out] at ho56 | (simp only [Int.reduceToNat] at ho56; rw [← Ny1026.out] at ho56))
            replace HO_0 := Aside0.mk (Kd.V_elder' (kV_ HO_0.out) (Kd.R_base ho56) hb)
            replace HO_7 := Aside0.mk (Kd.V_elder' (kV_ HO_7.out) (Kd.R_base ho56) hb)
            replace HO1022 := Aside0.mk (Kd.V_elder' (kV_ HO1022.out) (Kd.R_base ho56) hb)
            have HO1028 := Aside0.mk (Kd.R_lower (Kd.R_newB (Kd.R_new' (Kd.R_newM (M := fun k_ => (w.heap.size ≤ k_)) ho56 (below_size (hs_ GE998.out)) (fun k_ h_ => h_)) (Kd.R_lt (kR_ HO1025.out))) (g := gb998) (o := .cells #[.string a1_0, .int .i64 a1_1] 109 (0, 0)) (kB_ BK998.out)) (below_size (hs_ GE998.out)))
            replace HO1025 := Aside0.mk (Kd.R_elder' (kR_ HO1025.out) (Kd.R_base ho56) hb)
            replace BK998 := Aside0.mk (blk_below (g := gb998) (o := .cells #[.string a1_0, .int .i64 a1_1] 109 (0, 0)) (kB_ BK998.out) hb)
            replace HB := Aside0.mk (below_step (hs_ GE998.out) hb)
            clear hb ho56
            refine hK.out _ _ ⟨(blk_cell BK998.out 0).trans rfl, (blk_cell BK998.out 1).trans rfl⟩ (fun hHeld => ?_)
            clear hK K
            refine norm_ (a' := ?_) ?_ ?_
            rotate_left
            ·show Act.put _ (some 56) _ = _
             simp only [Act.put, List.setIfInBounds_toArray, List.set_cons_zero, List.set_cons_succ, i64_w, i32_w]
             rfl
            exact norm_ (by simp only [putAll, Act.put, List.setIfInBounds_toArray, List.set_cons_zero, List.set_cons_succ]) (hCont (v1016, v1024, v1027) _ ⟨hHeld, (by refine kV_ ?_; exact Kd.V_mono HO1022.out (fun _ hk => ⟨hk.1.1.1, ⟨hk.1.2, ⟨hk.2, hk.1.1.2⟩⟩⟩)), (by refine kR_ ?_; exact Kd.R_mono HO1025.out (fun _ hk => ⟨hk.1.1, ⟨hk.2, hk.1.2⟩⟩)), (by refine kR_ ?_; exact Kd.R_mono HO1028.out (fun _ hk => ⟨hk.1.1.1, ⟨hk.1.2, hk.2⟩⟩)), (by refine kV_ ?_; exact Kd.V_mono HO_0.out (fun _ hk => ⟨hk.1.1.1, ⟨hk.1.2, ⟨hk.2, hk.1.1.2⟩⟩⟩)), (by refine kV_ ?_; exact Kd.V_mono HO_7.out (fun _ hk => ⟨hk.1.1.1, ⟨hk.1.2, ⟨hk.2, hk.1.1.2⟩⟩⟩)), (kB_ BK998.out), (hs_ GE998.out)⟩)
           ·skip
            refine Kd.R_lit_step k109 _ 109 ?hg (N := 56) ?hd (xs := ([(⟨a1_0, a1_1⟩ : S109)] : List (S109))) (inner := [.string a1_0, .int .i64 a1_1]) (ok := fun _ => True) (okp := fun _ => True) ?hr ?hp (fun _ hk => hk) trivial (Below.refl _ _) (Nat.le_refl _) (by simp) ?_; (case hd => rfl); (case hg => rfl); (case hr => first | (go_simp; done) | (go_simp; rfl)); (case hp => exact (Reps.c2 (show Kd.M k109 _ _ _ (⟨a1_0, a1_1⟩ : S109) [.string a1_0, .int .i64 a1_1] from (k109_mkM _ _ _ (⟨a1_0, a1_1⟩ : S109) )) (Reps.none _ _)))
            intro v1027 w54 ho55 hb hg_ hnew_
            clear hg_ hnew_
            (first | rw [← Ny1026.out] at ho55 | (simp only [Int.reduceToNat] at ho55; rw [← Ny1026.out] at ho55))
            replace HO_0 := Aside0.mk (Kd.V_elder' (kV_ HO_0.out) (Kd.R_base ho55) hb)
            replace HO_7 := Aside0.mk (Kd.V_elder' (kV_ HO_7.out) (Kd.R_base ho55) hb)
            replace HO1022 := Aside0.mk (Kd.V_elder' (kV_ HO1022.out) (Kd.R_base ho55) hb)
            have HO1028 := Aside0.mk (Kd.R_lower (Kd.R_newB (Kd.R_new' (Kd.R_newM (M := fun k_ => (w.heap.size ≤ k_)) ho55 (below_size (hs_ GE998.out)) (fun k_ h_ => h_)) (Kd.R_lt (kR_ HO1017.out))) (g := gb998) (o := .cells #[.string a1_0, .int .i64 a1_1] 109 (0, 0)) (kB_ BK998.out)) (below_size (hs_ GE998.out)))
            replace HO1017 := Aside0.mk (Kd.R_elder' (kR_ HO1017.out) (Kd.R_base ho55) hb)
            replace BK998 := Aside0.mk (blk_below (g := gb998) (o := .cells #[.string a1_0, .int .i64 a1_1] 109 (0, 0)) (kB_ BK998.out) hb)
            replace HB := Aside0.mk (below_step (hs_ GE998.out) hb)
            clear hb ho55
            refine hK.out _ _ ⟨(blk_cell BK998.out 0).trans rfl, (blk_cell BK998.out 1).trans rfl⟩ (fun hHeld => ?_)
            clear hK K
            refine norm_ (a' := ?_) ?_ ?_
            rotate_left
            ·show Act.put _ (some 56) _ = _
             simp only [Act.put, List.setIfInBounds_toArray, List.set_cons_zero, List.set_cons_succ, i64_w, i32_w]
             rfl
            refine one_ (i := 4) (N := some 54) (tb_ 11 383) rfl rfl (one_of HT_.out (by kernel_rfl)) (by decide) (fun K hK => ?_)
            refine Kd.R_append_rows_step k109 (w0 := w) w.heap.size (by rfl) (.tmp 50) (.tmp 53) 102 109 (.agg #[(.string ⟨#[]⟩), (.int .i64 0)]) 24 rfl Try.underlying102 info109 rfl (by decide) (by omega) v1016 y1015 y1018 _ _ _ (fun k_ => (w.heap.size ≤ k_) ∧ some k_ ≠ (v1027 : Value).ownBlock ∧ k_ ≠ gb998) (fun _ => False) rfl rfl ?aO ?aR (fun _ _ h => h) (fun _ h => h.elim) ?aF ?aB ?aS ?aL ?_
            (case aR => repeat (first | exact (Kd.V_reads' HO1022.out).2.2 | (with_reducible refine Kd.C_alloc ?_ _) | (with_reducible refine Kd.C_drewN ?_ _) | (with_reducible refine Kd.C_drew ?_)))
            (case aB => exact (hs_ GE998.out))
            (case aF => exact (fun k_ hk => ⟨(Nat.le_trans (below_size (hs_ GE998.out)) hk), Kd.fresh' (Kd.R_lt (kR_ HO1028.out)) k_ hk, Kd.freshB (g := gb998) (o := .cells #[.string a1_0, .int .i64 a1_1] 109 (0, 0)) (kB_ BK998.out) k_ hk⟩))
            (case aO => exact (by refine kR_ ?_; exact Kd.R_mono HO1017.out (fun _ hk => ⟨hk.1.1.1, ⟨hk.2, hk.1.2⟩⟩)))
            (case aS => exact (below_size (hs_ GE998.out)))
            (case aL => have := LMc29.out; omega)
            intro v1024 w56 ho hb hg hat
            rw [← Ny1023.out] at ho
            have n0_ := Aside0.mk (Kd.V_afterv (ok := (fun k_ => (P0_ k_ ∨ w.heap.size ≤ k_) ∧ some k_ ≠ (v1027 : Value).ownBlock ∧ k_ ≠ gb998)) (by refine kV_ ?_; exact Kd.V_mono HO_0.out (fun _ hk => ⟨⟨hk.1.1.1, ⟨hk.2, hk.1.1.2⟩⟩, hk.1.2⟩)) hg hat)
            have n1_ := Aside0.mk (Kd.V_afterv (ok := (fun k_ => (P0_ k_ ∨ w.heap.size ≤ k_) ∧ some k_ ≠ (v1027 : Value).ownBlock ∧ k_ ≠ gb998)) (by refine kV_ ?_; exact Kd.V_mono HO_7.out (fun _ hk => ⟨⟨hk.1.1.1, ⟨hk.2, hk.1.1.2⟩⟩, hk.1.2⟩)) hg hat)
            have n2_ := Aside0.mk (blk_grown (g := gb998) (o := .cells #[.string a1_0, .int .i64 a1_1] 109 (0, 0)) (kB_ BK998.out) hg (Kd.R_away HO1017.out (fun _ hk => hk.1.2)))
            have n3_ := Aside0.mk (Kd.V_afterv (ok := (fun k_ => (P0_ k_ ∨ w.heap.size ≤ k_) ∧ some k_ ≠ (v1027 : Value).ownBlock ∧ k_ ≠ gb998)) (by refine kV_ ?_; exact Kd.V_mono HO1022.out (fun _ hk => ⟨⟨hk.1.1.1, ⟨hk.2, hk.1.1.2⟩⟩, hk.1.2⟩)) hg hat)
            have n4_ := Aside0.mk (Kd.R_after (ok := (fun k_ => (w.heap.size ≤ k_) ∧ k_ ≠ gb998)) (by refine kR_ ?_; exact Kd.R_mono HO1028.out (fun _ hk => ⟨⟨hk.1.1.1, hk.2⟩, hk.1.2⟩)) hg hat)
            have n5_ := Aside0.mk (hb)
            have n6_ := Aside0.mk (ho)
            clear HO_0
            clear HO_7
            clear BK998
            clear HO1022
            clear HO1028
            clear HB
            clear HO1017
            have HO_0 := n0_
            have HO_7 := n1_
            have BK998 := n2_
            have HO1022 := n3_
            have HO1028 := n4_
            have HB := n5_
            have HO1025 := n6_
            clear n0_ n1_ n2_ n3_ n4_ n5_ n6_
            clear ho hb hg hat
            refine hK.out _ _ ⟨(blk_cell BK998.out 0).trans rfl, (blk_cell BK998.out 1).trans rfl⟩ (fun hHeld => ?_)
            clear hK K
            refine norm_ (a' := ?_) ?_ ?_
            rotate_left
            ·show Act.put _ (some 54) _ = _
             simp only [Act.put, List.setIfInBounds_toArray, List.set_cons_zero, List.set_cons_succ, i64_w, i32_w]
             rfl
            exact norm_ (by simp only [putAll, Act.put, List.setIfInBounds_toArray, List.set_cons_zero, List.set_cons_succ]) (hCont (v1016, v1024, v1027) _ ⟨hHeld, (by refine kV_ ?_; exact Kd.V_mono HO1022.out (fun _ hk => ⟨hk.1.1, ⟨hk.2, ⟨hk.1.2.1, hk.1.2.2⟩⟩⟩)), (kR_ HO1025.out), (by refine kR_ ?_; exact Kd.R_mono HO1028.out (fun _ hk => ⟨hk.1.1, ⟨hk.2, hk.1.2⟩⟩)), (by refine kV_ ?_; exact Kd.V_mono HO_0.out (fun _ hk => ⟨hk.1.1, ⟨hk.2, ⟨hk.1.2.1, hk.1.2.2⟩⟩⟩)), (by refine kV_ ?_; exact Kd.V_mono HO_7.out (fun _ hk => ⟨hk.1.1, ⟨hk.2, ⟨hk.1.2.1, hk.1.2.2⟩⟩⟩)), (kB_ BK998.out), (hs_ GE998.out)⟩)
          ·skip
           refine Kd.R_lit_step k109 _ 109 ?hg (N := 56) ?hd (xs := ([(⟨a1_0, a1_1⟩ : S109)] : List (S109))) (inner := [.string a1_0, .int .i64 a1_1]) (ok := fun _ => True) (okp := fun _ => True) ?hr ?hp (fun _ hk => hk) trivial (Below.refl _ _) (Nat.le_refl _) (by simp) ?_; (case hd => rfl); (case hg => rfl); (case hr => first | (go_simp; done) | (go_simp; rfl)); (case hp => exact (Reps.c2 (show Kd.M k109 _ _ _ (⟨a1_0, a1_1⟩ : S109) [.string a1_0, .int .i64 a1_1] from (k109_mkM _ _ _ (⟨a1_0, a1_1⟩ : S109) )) (Reps.none _ _)))
           intro v1027 w52 ho53 hb hg_ hnew_
           clear hg_ hnew_
           (first | rw [← Ny1026.out] at ho53 | (simp only [Int.reduceToNat] at ho53; rw [← Ny1026.out] at ho53))
           replace HO_0 := Aside0.mk (Kd.V_elder' (kV_ HO_0.out) (Kd.R_base ho53) hb)
           replace HO_7 := Aside0.mk (Kd.V_elder' (kV_ HO_7.out) (Kd.R_base ho53) hb)
           replace HO1022 := Aside0.mk (Kd.V_elder' (kV_ HO1022.out) (Kd.R_base ho53) hb)
           have HO1028 := Aside0.mk (Kd.R_lower (Kd.R_newB (Kd.R_newM (M := fun k_ => (w.heap.size ≤ k_)) ho53 (below_size (hs_ GE998.out)) (fun k_ h_ => h_)) (g := gb998) (o := .cells #[.string a1_0, .int .i64 a1_1] 109 (0, 0)) (kB_ BK998.out)) (below_size (hs_ GE998.out)))
           replace BK998 := Aside0.mk (blk_below (g := gb998) (o := .cells #[.string a1_0, .int .i64 a1_1] 109 (0, 0)) (kB_ BK998.out) hb)
           replace HB := Aside0.mk (below_step (hs_ GE998.out) hb)
           clear hb ho53
           refine hK.out _ _ ⟨(blk_cell BK998.out 0).trans rfl, (blk_cell BK998.out 1).trans rfl⟩ (fun hHeld => ?_)
           clear hK K
           refine norm_ (a' := ?_) ?_ ?_
           rotate_left
           ·show Act.put _ (some 56) _ = _
            simp only [Act.put, List.setIfInBounds_toArray, List.set_cons_zero, List.set_cons_succ, i64_w, i32_w]
            rfl
           refine one_ (i := 0) (N := some 50) (tb_ 11 367) rfl rfl (one_of HT_.out (by kernel_rfl)) (by decide) (fun K hK => ?_)
           refine Kd.R_lit_step k109 _ 109 ?hg (N := 50) ?hd (xs := ([] : List (S109))) (inner := []) (ok := fun _ => True) (okp := fun _ => True) ?hr ?hp (fun _ hk => hk) trivial (Below.refl _ _) (Nat.le_refl _) (by simp) ?_; (case hd => rfl); (case hg => rfl); (case hr => first | (go_simp; done) | (go_simp; rfl)); (case hp => exact (Reps.none _ _))
           intro v1016 w54 ho55 hb hg_ hnew_
           clear hg_ hnew_
           (first | rw [← Ny1015.out] at ho55 | (simp only [Int.reduceToNat] at ho55; rw [← Ny1015.out] at ho55))
           replace HO_0 := Aside0.mk (Kd.V_elder' (kV_ HO_0.out) (Kd.R_base ho55) hb)
           replace HO_7 := Aside0.mk (Kd.V_elder' (kV_ HO_7.out) (Kd.R_base ho55) hb)
           replace HO1022 := Aside0.mk (Kd.V_elder' (kV_ HO1022.out) (Kd.R_base ho55) hb)
           have HO1017 := Aside0.mk (Kd.R_lower (Kd.R_newB (Kd.R_new' (Kd.R_newM (M := fun k_ => (w.heap.size ≤ k_)) ho55 (below_size (hs_ GE998.out)) (fun k_ h_ => h_)) (Kd.R_lt (kR_ HO1028.out))) (g := gb998) (o := .cells #[.string a1_0, .int .i64 a1_1] 109 (0, 0)) (kB_ BK998.out)) (below_size (hs_ GE998.out)))
           replace HO1028 := Aside0.mk (Kd.R_elder' (kR_ HO1028.out) (Kd.R_base ho55) hb)
           replace BK998 := Aside0.mk (blk_below (g := gb998) (o := .cells #[.string a1_0, .int .i64 a1_1] 109 (0, 0)) (kB_ BK998.out) hb)
           replace HB := Aside0.mk (below_step (hs_ GE998.out) hb)
           clear hb ho55
           refine hK.out _ _ ⟨(blk_cell BK998.out 0).trans rfl, (blk_cell BK998.out 1).trans rfl⟩ (fun hHeld => ?_)
           clear hK K
           refine norm_ (a' := ?_) ?_ ?_
           rotate_left
           ·show Act.put _ (some 50) _ = _
            simp only [Act.put, List.setIfInBounds_toArray, List.set_cons_zero, List.set_cons_succ, i64_w, i32_w]
            rfl
           refine one_ (i := 4) (N := some 54) (tb_ 11 383) rfl rfl (one_of HT_.out (by kernel_rfl)) (by decide) (fun K hK => ?_)
           refine Kd.R_append_rows_step k109 (w0 := w) w.heap.size (by rfl) (.tmp 50) (.tmp 53) 102 109 (.agg #[(.string ⟨#[]⟩), (.int .i64 0)]) 24 rfl Try.underlying102 info109 rfl (by decide) (by omega) v1016 y1015 y1018 _ _ _ (fun k_ => (w.heap.size ≤ k_) ∧ some k_ ≠ (v1027 : Value).ownBlock ∧ k_ ≠ gb998) (fun _ => False) rfl rfl ?aO ?aR (fun _ _ h => h) (fun _ h => h.elim) ?aF ?aB ?aS ?aL ?_
           (case aR => repeat (first | exact (Kd.V_reads' HO1022.out).2.2 | (with_reducible refine Kd.C_alloc ?_ _) | (with_reducible refine Kd.C_drewN ?_ _) | (with_reducible refine Kd.C_drew ?_)))
           (case aB => exact (hs_ GE998.out))
           (case aF => exact (fun k_ hk => ⟨(Nat.le_trans (below_size (hs_ GE998.out)) hk), Kd.fresh' (Kd.R_lt (kR_ HO1028.out)) k_ hk, Kd.freshB (g := gb998) (o := .cells #[.string a1_0, .int .i64 a1_1] 109 (0, 0)) (kB_ BK998.out) k_ hk⟩))
           (case aO => exact (by refine kR_ ?_; exact Kd.R_mono HO1017.out (fun _ hk => ⟨hk.1.1.1, ⟨hk.1.2, hk.2⟩⟩)))
           (case aS => exact (below_size (hs_ GE998.out)))
           (case aL => have := LMc29.out; omega)
           intro v1024 w56 ho hb hg hat
           rw [← Ny1023.out] at ho
           have n0_ := Aside0.mk (Kd.V_afterv (ok := (fun k_ => (P0_ k_ ∨ w.heap.size ≤ k_) ∧ some k_ ≠ (v1027 : Value).ownBlock ∧ k_ ≠ gb998)) (by refine kV_ ?_; exact Kd.V_mono HO_0.out (fun _ hk => ⟨⟨hk.1.1.1, ⟨hk.1.2, hk.1.1.2⟩⟩, hk.2⟩)) hg hat)
           have n1_ := Aside0.mk (Kd.V_afterv (ok := (fun k_ => (P0_ k_ ∨ w.heap.size ≤ k_) ∧ some k_ ≠ (v1027 : Value).ownBlock ∧ k_ ≠ gb998)) (by refine kV_ ?_; exact Kd.V_mono HO_7.out (fun _ hk => ⟨⟨hk.1.1.1, ⟨hk.1.2, hk.1.1.2⟩⟩, hk.2⟩)) hg hat)
           have n2_ := Aside0.mk (blk_grown (g := gb998) (o := .cells #[.string a1_0, .int .i64 a1_1] 109 (0, 0)) (kB_ BK998.out) hg (Kd.R_away HO1017.out (fun _ hk => hk.2)))
           have n3_ := Aside0.mk (Kd.V_afterv (ok := (fun k_ => (P0_ k_ ∨ w.heap.size ≤ k_) ∧ some k_ ≠ (v1027 : Value).ownBlock ∧ k_ ≠ gb998)) (by refine kV_ ?_; exact Kd.V_mono HO1022.out (fun _ hk => ⟨⟨hk.1.1.1, ⟨hk.1.2, hk.1.1.2⟩⟩, hk.2⟩)) hg hat)
           have n4_ := Aside0.mk (Kd.R_after (ok := (fun k_ => (w.heap.size ≤ k_) ∧ k_ ≠ gb998)) (by refine kR_ ?_; exact Kd.R_mono HO1028.out (fun _ hk => ⟨⟨hk.1.1.1, hk.1.2⟩, hk.2⟩)) hg hat)
           have n5_ := Aside0.mk (hb)
           have n6_ := Aside0.mk (ho)
           clear HO_0
           clear HO_7
           clear BK998
           clear HO1022
           clear HO1028
           clear HB
           clear HO1017
           have HO_0 := n0_
           have HO_7 := n1_
           have BK998 := n2_
           have HO1022 := n3_
           have HO1028 := n4_
           have HB := n5_
           have HO1025 := n6_
           clear n0_ n1_ n2_ n3_ n4_ n5_ n6_
           clear ho hb hg hat
           refine hK.out _ _ ⟨(blk_cell BK998.out 0).trans rfl, (blk_cell BK998.out 1).trans rfl⟩ (fun hHeld => ?_)
           clear hK K
           refine norm_ (a' := ?_) ?_ ?_
           rotate_left
           ·show Act.put _ (some 54) _ = _
            simp only [Act.put, List.setIfInBounds_toArray, List.set_cons_zero, List.set_cons_succ, i64_w, i32_w]
            rfl
           exact norm_ (by simp only [putAll, Act.put, List.setIfInBounds_toArray, List.set_cons_zero, List.set_cons_succ]) (hCont (v1016, v1024, v1027) _ ⟨hHeld, (by refine kV_ ?_; exact Kd.V_mono HO1022.out (fun _ hk => ⟨hk.1.1, ⟨hk.2, ⟨hk.1.2.1, hk.1.2.2⟩⟩⟩)), (kR_ HO1025.out), (by refine kR_ ?_; exact Kd.R_mono HO1028.out (fun _ hk => ⟨hk.1.1, ⟨hk.2, hk.1.2⟩⟩)), (by refine kV_ ?_; exact Kd.V_mono HO_0.out (fun _ hk => ⟨hk.1.1, ⟨hk.2, ⟨hk.1.2.1, hk.1.2.2⟩⟩⟩)), (by refine kV_ ?_; exact Kd.V_mono HO_7.out (fun _ hk => ⟨hk.1.1, ⟨hk.2, ⟨hk.1.2.1, hk.1.2.2⟩⟩⟩)), (kB_ BK998.out), (hs_ GE998.out)⟩)
         rintro ⟨v1016, v1024, v1027⟩ w57 ⟨hS_, h0_, h1_, h2_, h3_, h4_, h5_, h6_⟩
         have n0_ : Aside0 (Kd.V k109 109 w57 w.heap.size (fun k_ => (P0_ k_ ∨ w.heap.size ≤ k_) ∧ some k_ ≠ (v1024 : Value).ownBlock ∧ some k_ ≠ (v1027 : Value).ownBlock ∧ k_ ≠ gb998) (.slice A0 y1018.length c0) y1018) := ⟨h0_⟩
         have n1_ : Aside0 (Kd.R k109 109 w57 w.heap.size (fun k_ => (w.heap.size ≤ k_) ∧ some k_ ≠ (v1027 : Value).ownBlock ∧ k_ ≠ gb998) v1024 y1023) := ⟨h1_⟩
         have n2_ : Aside0 (Kd.R k109 109 w57 w.heap.size (fun k_ => (w.heap.size ≤ k_) ∧ some k_ ≠ (v1024 : Value).ownBlock ∧ k_ ≠ gb998) v1027 y1026) := ⟨h2_⟩
         have n3_ : Aside0 (Kd.V k109 109 w57 w.heap.size (fun k_ => (P0_ k_ ∨ w.heap.size ≤ k_) ∧ some k_ ≠ (v1024 : Value).ownBlock ∧ some k_ ≠ (v1027 : Value).ownBlock ∧ k_ ≠ gb998) (.slice A0 l0.length c0) l0) := ⟨h3_⟩
         have n4_ : Aside0 (Kd.V k109 109 w57 w.heap.size (fun k_ => (P0_ k_ ∨ w.heap.size ≤ k_) ∧ some k_ ≠ (v1024 : Value).ownBlock ∧ some k_ ≠ (v1027 : Value).ownBlock ∧ k_ ≠ gb998) (.slice Ao49 x7_20.length co49) x7_20) := ⟨h4_⟩
         have n5_ : Aside0 (w57.heap[gb998]? = some (.cells #[.string a1_0, .int .i64 a1_1] 109 (0, 0))) := ⟨h5_⟩
         have n6_ : Aside0 (Below w.heap.size w w57) := ⟨h6_⟩
         clear HO_0
         clear HO_7
         clear BK998
         clear HB
         clear h0_ h1_ h2_ h3_ h4_ h5_ h6_
         have HO1022 := n0_
         have HO1025 := n1_
         have HO1028 := n2_
         have HO_0 := n3_
         have HO_7 := n4_
         have BK998 := n5_
         have HB := n6_
         clear n0_ n1_ n2_ n3_ n4_ n5_ n6_
         have hHeld : w57.cell? ⟨gb998, 0, none⟩ = some (.string a1_0) ∧ w57.cell? ⟨gb998, 1, none⟩ = some (.int .i64 a1_1) := hS_
         obtain ⟨Ao59, co59, eo59⟩ := Kd.R_slice HO1028.out
         (first | subst eo59 | (injection eo59 with f1_ f2_ f3_; have f4_ := f1_.symm; have f5_ := f3_.symm; clear f1_ f2_ f3_; subst f4_; subst f5_))
         refine norm_ (a' := ?_) ?_ ?_
         rotate_left
         ·simp only [putAll, Act.put, List.setIfInBounds_toArray, List.set_cons_zero, List.set_cons_succ]
          rfl
         refine one_ (i := 7) (N := some 57) (tf_ 9 2) rfl rfl (one_of HT_.out (by kernel_rfl)) (by decide) (fun K hK => ?_)
         refine Kd.R_append_rows_step k109 (w0 := w) w.heap.size (by rfl) (.tmp 54) (.tmp 56) 102 109 (.agg #[(.string ⟨#[]⟩), (.int .i64 0)]) 24 rfl Try.underlying102 info109 rfl (by decide) (by omega) v1024 y1023 y1026 _ _ _ (fun k_ => (w.heap.size ≤ k_) ∧ some k_ ≠ (.slice Ao59 y1026.length co59 : Value).ownBlock ∧ k_ ≠ gb998) (fun _ => False) rfl rfl ?aO ?aR (fun _ _ h => h) (fun _ h => h.elim) ?aF ?aB ?aS ?aL ?_
         (case aR => repeat (first | exact (Kd.R_reads' HO1028.out).2.2 | (with_reducible refine Kd.C_alloc ?_ _) | (with_reducible refine Kd.C_drewN ?_ _) | (with_reducible refine Kd.C_drew ?_)))
         (case aB => exact (hs_ GE998.out))
         (case aF => exact (fun k_ hk => ⟨(Nat.le_trans (below_size (hs_ GE998.out)) hk), Kd.fresh' (Kd.R_lt (kR_ HO1028.out)) k_ hk, Kd.freshB (g := gb998) (o := .cells #[.string a1_0, .int .i64 a1_1] 109 (0, 0)) (kB_ BK998.out) k_ hk⟩))
         (case aO => exact (kR_ HO1025.out))
         (case aS => exact (below_size (hs_ GE998.out)))
         (case aL => have := LMc30.out; omega)
         intro v1030 w58 ho hb hg hat
         rw [← Ny1029.out] at ho
         have n0_ := Aside0.mk (Kd.V_afterv (ok := (fun k_ => (P0_ k_ ∨ w.heap.size ≤ k_) ∧ some k_ ≠ (.slice Ao59 y1026.length co59 : Value).ownBlock ∧ k_ ≠ gb998)) (by refine kV_ ?_; exact Kd.V_mono HO_0.out (fun _ hk => ⟨⟨hk.1, ⟨hk.2.2.1, hk.2.2.2⟩⟩, hk.2.1⟩)) hg hat)
         have n1_ := Aside0.mk (Kd.V_afterv (ok := (fun k_ => (P0_ k_ ∨ w.heap.size ≤ k_) ∧ some k_ ≠ (.slice Ao59 y1026.length co59 : Value).ownBlock ∧ k_ ≠ gb998)) (by refine kV_ ?_; exact Kd.V_mono HO_7.out (fun _ hk => ⟨⟨hk.1, ⟨hk.2.2.1, hk.2.2.2⟩⟩, hk.2.1⟩)) hg hat)
         have n2_ := Aside0.mk (blk_grown (g := gb998) (o := .cells #[.string a1_0, .int .i64 a1_1] 109 (0, 0)) (kB_ BK998.out) hg (Kd.R_away HO1025.out (fun _ hk => hk.2.2)))
         have n3_ := Aside0.mk (Kd.V_afterv (ok := (fun k_ => (P0_ k_ ∨ w.heap.size ≤ k_) ∧ some k_ ≠ (.slice Ao59 y1026.length co59 : Value).ownBlock ∧ k_ ≠ gb998)) (by refine kV_ ?_; exact Kd.V_mono HO1022.out (fun _ hk => ⟨⟨hk.1, ⟨hk.2.2.1, hk.2.2.2⟩⟩, hk.2.1⟩)) hg hat)
         have n4_ := Aside0.mk (Kd.R_after (ok := (fun k_ => (w.heap.size ≤ k_) ∧ k_ ≠ gb998)) (by refine kR_ ?_; exact Kd.R_mono HO1028.out (fun _ hk => ⟨⟨hk.1, hk.2.2⟩, hk.2.1⟩)) hg hat)
         have n5_ := Aside0.mk (hb)
         have n6_ := Aside0.mk (ho)
         clear HO_0
         clear HO_7
         clear BK998
         clear HO1022
         clear HO1028
         clear HB
         clear HO1025
         have HO_0 := n0_
         have HO_7 := n1_
         have BK998 := n2_
         have HO1022 := n3_
         have HO1028 := n4_
         have HB := n5_
         have HO1031 := n6_
         clear n0_ n1_ n2_ n3_ n4_ n5_ n6_
         clear ho hb hg hat
         refine hK.out _ _ ⟨(blk_cell BK998.out 0).trans rfl, (blk_cell BK998.out 1).trans rfl⟩ (fun hHeld => ?_)
         clear hK K
         refine norm_ (a' := ?_) ?_ ?_
         rotate_left
         ·show Act.put _ (some 57) _ = _
          simp only [Act.put, List.setIfInBounds_toArray, List.set_cons_zero, List.set_cons_succ, i64_w, i32_w]
          rfl
         refine one_ (i := 9) (N := some 59) (tf_ 10 1) rfl rfl (one_of HT_.out (by kernel_rfl)) (by decide) (fun K hK => ?_)
         refine Kd.R_append_rows_step k109 (w0 := w) w.heap.size (by rfl) (.tmp 57) (.tmp 58) 102 109 (.agg #[(.string ⟨#[]⟩), (.int .i64 0)]) 24 rfl Try.underlying102 info109 rfl (by decide) (by omega) v1030 y1029 x7_20 _ _ _ (fun k_ => (w.heap.size ≤ k_) ∧ some k_ ≠ (.slice Ao59 y1026.length co59 : Value).ownBlock ∧ k_ ≠ gb998) (fun _ => False) rfl rfl ?aO ?aR (fun _ _ h => h) (fun _ h => h.elim) ?aF ?aB ?aS ?aL ?_
         (case aR => repeat (first | exact (Kd.V_reads' HO_7.out).2.2 | (with_reducible refine Kd.C_alloc ?_ _) | (with_reducible refine Kd.C_drewN ?_ _) | (with_reducible refine Kd.C_drew ?_)))
         (case aB => exact (hs_ GE998.out))
         (case aF => exact (fun k_ hk => ⟨(Nat.le_trans (below_size (hs_ GE998.out)) hk), Kd.fresh' (Kd.R_lt (kR_ HO1028.out)) k_ hk, Kd.freshB (g := gb998) (o := .cells #[.string a1_0, .int .i64 a1_1] 109 (0, 0)) (kB_ BK998.out) k_ hk⟩))
         (case aO => exact (kR_ HO1031.out))
         (case aS => exact (below_size (hs_ GE998.out)))
         (case aL => have := LMc31.out; omega)
         intro v1033 w60 ho hb hg hat
         rw [← Ny1032.out] at ho
         have n0_ := Aside0.mk (Kd.V_afterv (ok := (fun k_ => (P0_ k_ ∨ w.heap.size ≤ k_) ∧ some k_ ≠ (.slice Ao59 y1026.length co59 : Value).ownBlock ∧ k_ ≠ gb998)) (kV_ HO_0.out) hg hat)
         have n1_ := Aside0.mk (Kd.V_afterv (ok := (fun k_ => (P0_ k_ ∨ w.heap.size ≤ k_) ∧ some k_ ≠ (.slice Ao59 y1026.length co59 : Value).ownBlock ∧ k_ ≠ gb998)) (kV_ HO_7.out) hg hat)
         have n2_ := Aside0.mk (blk_grown (g := gb998) (o := .cells #[.string a1_0, .int .i64 a1_1] 109 (0, 0)) (kB_ BK998.out) hg (Kd.R_away HO1031.out (fun _ hk => hk.2.2)))
         have n3_ := Aside0.mk (Kd.V_afterv (ok := (fun k_ => (P0_ k_ ∨ w.heap.size ≤ k_) ∧ some k_ ≠ (.slice Ao59 y1026.length co59 : Value).ownBlock ∧ k_ ≠ gb998)) (kV_ HO1022.out) hg hat)
         have n4_ := Aside0.mk (Kd.R_after (ok := (fun k_ => (w.heap.size ≤ k_) ∧ k_ ≠ gb998)) (kR_ HO1028.out) hg hat)
         have n5_ := Aside0.mk (hb)
         have n6_ := Aside0.mk (ho)
         clear HO_0
         clear HO_7
         clear BK998
         clear HO1022
         clear HO1028
         clear HB
         clear HO1031
         have HO_0 := n0_
         have HO_7 := n1_
         have BK998 := n2_
         have HO1022 := n3_
         have HO1028 := n4_
         have HB := n5_
         have HO1034 := n6_
         clear n0_ n1_ n2_ n3_ n4_ n5_ n6_
         clear ho hb hg hat
         refine hK.out _ _ ⟨(blk_cell BK998.out 0).trans rfl, (blk_cell BK998.out 1).trans rfl⟩ (fun hHeld => ?_)
         clear hK K
         refine norm_ (a' := ?_) ?_ ?_
         rotate_left
         ·show Act.put _ (some 59) _ = _
          simp only [Act.put, List.setIfInBounds_toArray, List.set_cons_zero, List.set_cons_succ, i64_w, i32_w]
          rfl
         refine paA_ 10 8 11 0 ?_
         refine done_ (done_of HT_.out (by kernel_rfl)) ?_
         obtain ⟨Ao61, co61, eo61⟩ := Kd.R_slice HO1034.out
         subst eo61
         try go_wp2_with (first | ((with_reducible refine gate_callee (f := 103) rfl ?_); refine gl_ (some 61) Try.func103 #[.slice Ao61 y1032.length co61] ?_; (with_reducible refine (spec_EntriesValid.calls kj20 _ _ y1032 false _ ?side1 ?side2 A32.out).mono ?_); (case side1 => exact kC_ ((Kd.R_reads' HO1034.out).2.2)); (case side2 => exact (Kd.R_reads' HO1034.out).2.1); rintro e w62 ⟨rfl, hb⟩; refine ⟨_, rfl, ?_⟩; have n0_ := Aside0.mk (Kd.V_below (kV_ HO_0.out) hb); have n1_ := Aside0.mk (Kd.V_below (kV_ HO_7.out) hb); have n2_ := Aside0.mk (Kd.V_below (kV_ HO1022.out) hb); have n3_ := Aside0.mk (Kd.R_below (kR_ HO1028.out) hb); have n4_ := Aside0.mk (Kd.R_below (kR_ HO1034.out) hb); have n5_ := Aside0.mk (blk_below (g := gb998) (o := .cells #[.string a1_0, .int .i64 a1_1] 109 (0, 0)) (kB_ BK998.out) hb); have n6_ := Aside0.mk (below_step (hs_ GE998.out) hb); clear HO_0; clear HO_7; clear HO1022; clear HO1028; clear HO1034; clear BK998; clear HB; have HO_0 := n0_; have HO_7 := n1_; have HO1022 := n2_; have HO1028 := n3_; have HO1034 := n4_; have BK998 := n5_; have HB := n6_; clear n0_ n1_ n2_ n3_ n4_ n5_ n6_; (try clear hb); (try clear hk)) | ((with_reducible refine gate_dst (N := 63) rfl ?_); refine Kd.R_lit k109 _ 109 ?hg (N := 63) ?hd (xs := ([] : List (S109))) (inner := []) (ok := fun _ => True) (okp := fun _ => True) ?hr ?hp (fun _ hk => hk) trivial (Below.refl _ _) (Nat.le_refl _) (by simp) ?_; (case hd => rfl); (case hg => rfl); (case hr => first | (go_simp; done) | (go_simp; rfl)); (case hp => exact (Reps.none _ _)); intro v1037 w63 ho64 hb hg_ hnew_; clear hg_ hnew_; (first | rw [← Ny1036.out] at ho64 | (simp only [Int.reduceToNat] at ho64; rw [← Ny1036.out] at ho64)); have n0_ := Aside0.mk (Kd.V_elder' (kV_ HO_0.out) (Kd.R_base ho64) hb); have n1_ := Aside0.mk (Kd.V_elder' (kV_ HO_7.out) (Kd.R_base ho64) hb); have n2_ := Aside0.mk (Kd.V_elder' (kV_ HO1022.out) (Kd.R_base ho64) hb); have n3_ := Aside0.mk (Kd.R_elder' (kR_ HO1028.out) (Kd.R_base ho64) hb); have n4_ := Aside0.mk (Kd.R_elder' (kR_ HO1034.out) (Kd.R_base ho64) hb); have n5_ := Aside0.mk (Kd.R_lower (Kd.R_newB (Kd.R_new' (Kd.R_new' (Kd.R_newM (M := fun k_ => (w.heap.size ≤ k_)) ho64 (below_size (hs_ GE998.out)) (fun k_ h_ => h_)) (Kd.R_lt (kR_ HO1028.out))) (Kd.R_lt (kR_ HO1034.out))) (g := gb998) (o := .cells #[.string a1_0, .int .i64 a1_1] 109 (0, 0)) (kB_ BK998.out)) (below_size (hs_ GE998.out))); have n6_ := Aside0.mk (blk_below (g := gb998) (o := .cells #[.string a1_0, .int .i64 a1_1] 109 (0, 0)) (kB_ BK998.out) hb); have n7_ := Aside0.mk (below_step (hs_ GE998.out) hb); clear HO_0; clear HO_7; clear HO1022; clear HO1028; clear HO1034; clear BK998; clear HB; have HO_0 := n0_; have HO_7 := n1_; have HO1022 := n2_; have HO1028 := n3_; have HO1034 := n4_; have HO1038 := n5_; have BK998 := n6_; have HB := n7_; clear n0_ n1_ n2_ n3_ n4_ n5_ n6_ n7_; clear hb ho64) | ((with_reducible refine gate_builtin (b := .append) (xs := #[.tmp 63, .tmp 64]) rfl ?_); at_builtin; refine Kd.R_append_rows k109 (w0 := w) w.heap.size rfl (.tmp 63) (.tmp 64) 102 109 (.agg #[(.string ⟨#[]⟩), (.int .i64 0)]) 24 rfl Try.underlying102 info109 rfl (by decide) (by omega) v1037 y1036 l0 _ _ _ (fun k_ => (w.heap.size ≤ k_) ∧ some k_ ≠ (.slice Ao59 y1026.length co59 : Value).ownBlock ∧ some k_ ≠ (.slice Ao61 y1032.length co61 : Value).ownBlock ∧ k_ ≠ gb998) (fun _ => False) rfl rfl ?aO ?aR (fun _ _ h => h) (fun _ h => h.elim) ?aF ?aB ?aS ?aL ?_; (case aR => repeat (first | exact (Kd.V_reads' HO_0.out).2.2 | (with_reducible refine Kd.C_alloc ?_ _) | (with_reducible refine Kd.C_drewN ?_ _) | (with_reducible refine Kd.C_drew ?_))); (case aB => exact (hs_ GE998.out)); (case aF => exact (fun k_ hk => ⟨(Nat.le_trans (below_size (hs_ GE998.out)) hk), Kd.fresh' (Kd.R_lt (kR_ HO1028.out)) k_ hk, Kd.fresh' (Kd.R_lt (kR_ HO1034.out)) k_ hk, Kd.freshB (g := gb998) (o := .cells #[.string a1_0, .int .i64 a1_1] 109 (0, 0)) (kB_ BK998.out) k_ hk⟩)); (case aO => exact (by refine kR_ ?_; exact Kd.R_mono HO1038.out (fun _ hk => ⟨hk.1.1.1.1, ⟨hk.1.1.2, ⟨hk.1.2, hk.2⟩⟩⟩))); (case aS => exact (below_size (hs_ GE998.out))); (case aL => have := LMc48.out; omega); intro v1040 w65 ho hb hg hat; rw [← Ny1039.out] at ho; have n0_ := Aside0.mk (Kd.V_afterv (ok := (fun k_ => (P0_ k_ ∨ w.heap.size ≤ k_) ∧ some k_ ≠ (.slice Ao59 y1026.length co59 : Value).ownBlock ∧ some k_ ≠ (.slice Ao61 y1032.length co61 : Value).ownBlock ∧ k_ ≠ gb998)) (by refine kV_ ?_; exact Kd.V_mono HO_0.out (fun _ hk => ⟨⟨hk.1.1.1, ⟨hk.1.1.2.1, ⟨hk.1.2, hk.1.1.2.2⟩⟩⟩, hk.2⟩)) hg hat); have n1_ := Aside0.mk (Kd.V_afterv (ok := (fun k_ => (P0_ k_ ∨ w.heap.size ≤ k_) ∧ some k_ ≠ (.slice Ao59 y1026.length co59 : Value).ownBlock ∧ some k_ ≠ (.slice Ao61 y1032.length co61 : Value).ownBlock ∧ k_ ≠ gb998)) (by refine kV_ ?_; exact Kd.V_mono HO_7.out (fun _ hk => ⟨⟨hk.1.1.1, ⟨hk.1.1.2.1, ⟨hk.1.2, hk.1.1.2.2⟩⟩⟩, hk.2⟩)) hg hat); have n2_ := Aside0.mk (blk_grown (g := gb998) (o := .cells #[.string a1_0, .int .i64 a1_1] 109 (0, 0)) (kB_ BK998.out) hg (Kd.R_away HO1038.out (fun _ hk => hk.2))); have n3_ := Aside0.mk (Kd.V_afterv (ok := (fun k_ => (P0_ k_ ∨ w.heap.size ≤ k_) ∧ some k_ ≠ (.slice Ao59 y1026.length co59 : Value).ownBlock ∧ some k_ ≠ (.slice Ao61 y1032.length co61 : Value).ownBlock ∧ k_ ≠ gb998)) (by refine kV_ ?_; exact Kd.V_mono HO1022.out (fun _ hk => ⟨⟨hk.1.1.1, ⟨hk.1.1.2.1, ⟨hk.1.2, hk.1.1.2.2⟩⟩⟩, hk.2⟩)) hg hat); have n4_ := Aside0.mk (Kd.R_after (ok := (fun k_ => (w.heap.size ≤ k_) ∧ some k_ ≠ (.slice Ao61 y1032.length co61 : Value).ownBlock ∧ k_ ≠ gb998)) (by refine kR_ ?_; exact Kd.R_mono HO1028.out (fun _ hk => ⟨⟨hk.1.1.1, ⟨hk.1.2, hk.1.1.2⟩⟩, hk.2⟩)) hg hat); have n5_ := Aside0.mk (Kd.R_after (ok := (fun k_ => (w.heap.size ≤ k_) ∧ some k_ ≠ (.slice Ao59 y1026.length co59 : Value).ownBlock ∧ k_ ≠ gb998)) (kR_ HO1034.out) hg hat); have n6_ := Aside0.mk (hb); have n7_ := Aside0.mk (ho); clear HO_0; clear HO_7; clear BK998; clear HO1022; clear HO1028; clear HO1034; clear HB; clear HO1038; have HO_0 := n0_; have HO_7 := n1_; have BK998 := n2_; have HO1022 := n3_; have HO1028 := n4_; have HO1034 := n5_; have HB := n6_; have HO1041 := n7_; clear n0_ n1_ n2_ n3_ n4_ n5_ n6_ n7_; clear ho hb hg hat))
         go_ret2
         exact ⟨_, er_, by refine kR_ ?_; exact Kd.R_mono HO1041.out (fun _ hk => hk.1), hs_ GE998.out⟩
 ·replace c4 := Bool.eq_false_iff.mpr c4
  subst c4
  have H1 : (some ((([] : List (S109))), false)) = some (r1, r2) := by rw [if_neg (show ¬ (false = true) by decide)] at H; exact H
  clear H
  have H := H1
  clear H1
  obtain ⟨y1000, hy1000⟩ : ∃ y_ : List (S109), y_ = (([] : List (S109))) := ⟨_, rfl⟩
  replace H : (some (y1000, false)) = some (r1, r2) := hq_ hy1000 H
  have Ny1000 := Aside0.mk hy1000
  clear hy1000
  simp only [Option.some.injEq, Prod.mk.injEq] at H
  obtain ⟨rfl, rfl⟩ := H
  go_enter Try.func116, Try.ntmps116
  go_wp2_with (first | ((with_reducible refine gate_dst (N := 3) rfl ?_); refine box_event ?hg (N := 3) ?hd (cs := #[.string a1_0, .int .i64 a1_1]) (t := 109) ?hr ?_; (case hd => rfl); (case hg => rfl); (case hr => first | (go_simp; done) | (go_simp; rfl)); intro gb998 hg w66 hbox hb; have n0_ := Aside0.mk (Kd.V_below (Kd.V_elderB (kV_ HO0.out) gb998 (Nat.le_of_eq hg.symm)) hb); have n1_ := Aside0.mk (below_step hb_ hb); have n2_ := Aside0.mk (hbox); have n3_ := Aside0.mk ((by rw [hg]; exact (below_size hb_) : w.heap.size ≤ gb998)); have n4_ := Aside0.mk ((by rw [hg]; exact (below_size hb_) : w.heap.size ≤ gb998)); clear HO0; clear HB; have HO0 := n0_; have HB := n1_; have BK998 := n2_; have GW998 := n3_; have GE998 := n4_; clear n0_ n1_ n2_ n3_ n4_; clear hb hbox hg) | ((with_reducible refine gate_callee (f := 103) rfl ?_); refine gl_ (some 10) Try.func103 #[.slice A0 l0.length c0] ?_; (with_reducible refine (spec_EntriesValid.calls k _ _ l0 false _ ?side1 ?side2 A3.out).mono ?_); (case side1 => exact kC_ ((Kd.V_reads' HO0.out).2.2)); (case side2 => exact (Kd.V_reads' HO0.out).2.1); rintro e w67 ⟨rfl, hb⟩; refine ⟨_, rfl, ?_⟩; have n0_ := Aside0.mk (Kd.V_below (kV_ HO0.out) hb); have n1_ := Aside0.mk (blk_below (g := gb998) (o := .cells #[.string a1_0, .int .i64 a1_1] 109 (0, 0)) (kB_ BK998.out) hb); have n2_ := Aside0.mk (below_step (hs_ GE998.out) hb); clear HO0; clear BK998; clear HB; have HO0 := n0_; have BK998 := n1_; have HB := n2_; clear n0_ n1_ n2_; (try clear hb); (try clear hk)) | ((with_reducible refine gate_dst (N := 12) rfl ?_); refine Kd.R_lit k109 _ 109 ?hg (N := 12) ?hd (xs := ([] : List (S109))) (inner := []) (ok := fun _ => True) (okp := fun _ => True) ?hr ?hp (fun _ hk => hk) trivial (Below.refl _ _) (Nat.le_refl _) (by simp) ?_; (case hd => rfl); (case hg => rfl); (case hr => first | (go_simp; done) | (go_simp; rfl)); (case hp => exact (Reps.none _ _)); intro v1001 w68 ho69 hb hg_ hnew_; clear hg_ hnew_; (first | rw [← Ny1000.out] at ho69 | (simp only [Int.reduceToNat] at ho69; rw [← Ny1000.out] at ho69)); have n0_ := Aside0.mk (Kd.V_elder' (kV_ HO0.out) (Kd.R_base ho69) hb); have n1_ := Aside0.mk (Kd.R_lower (Kd.R_newB (Kd.R_newM (M := fun k_ => (w.heap.size ≤ k_)) ho69 (below_size (hs_ GE998.out)) (fun k_ h_ => h_)) (g := gb998) (o := .cells #[.string a1_0, .int .i64 a1_1] 109 (0, 0)) (kB_ BK998.out)) (below_size (hs_ GE998.out))); have n2_ := Aside0.mk (blk_below (g := gb998) (o := .cells #[.string a1_0, .int .i64 a1_1] 109 (0, 0)) (kB_ BK998.out) hb); have n3_ := Aside0.mk (below_step (hs_ GE998.out) hb); clear HO0; clear BK998; clear HB; have HO0 := n0_; have HO1002 := n1_; have BK998 := n2_; have HB := n3_; clear n0_ n1_ n2_ n3_; clear hb ho69))
  go_ret2
  exact ⟨_, er_, by refine kR_ ?_; exact Kd.R_mono HO1002.out (fun _ hk => hk.1.1), hs_ GE998.out⟩
end Go.Proofs.Ytcbmkonigclceaa.P
