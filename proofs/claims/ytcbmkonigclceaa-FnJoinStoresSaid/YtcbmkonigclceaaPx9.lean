-- The functions of the seat as plain Lean functions, made by the kit's print.py for all laws at once. Not trusted: Lean checks it.
import Derived.Test.YtcbmkonigclceaaPx0
import Derived.Test.YtcbmkonigclceaaPx2
import Derived.Test.YtcbmkonigclceaaPx8
namespace Go.Proofs.Ytcbmkonigclceaa.P
open Go.RowKit Go.Proofs.YtcbmkonigclceaaW.PrintWords Go.Proofs.YtcbmkonigclceaaW.PrintLast Go.Proofs.YtcbmkonigclceaaW.PrintMore
attribute [local go_sem] max2_int min2_int max_two min_two max_three min_three max_four min_four   -- for this text's walks alone
set_option linter.unusedVariables false
set_option linter.unusedSimpArgs false
/-! ### spec_l20Store: function 78 -/
def spec_l20Store.l0 : Nat → Int → List (S65) → Int → Int → List Int → Int → Option ((List (S65)) × Int × Int)
 | 0, _, _, _, _, _, _ => none
 | k + 1, x1, x6, x7, x9, x1000, x1001 => if x9 > 0 then ((spec_l20Step.f k x1000 x1001 x6 x7).bind fun bt1220 => (spec_l20Store.l0 k x1 bt1220.1 bt1220.2.1 (wrap64 (x9 - 1)) x1000 bt1220.2.2.2)) else ((spec_l20Rd_odd.f k x1000 x1001 x1).bind fun bt1226 => (if bt1226.1 = true then ((spec_l20Rd_pick.f k x1000 bt1226.2 3).bind fun bt1228 => (if bt1228.1 = 0 then ((some (([] : List (S65)) : List (S65))).bind fun y1230 => (if y1230.length + x6.length < 5864062014805 then ((some (y1230 ++ x6 : List (S65))).bind fun y1233 => ((spec_l20Rd_pick.f k x1000 bt1228.2 (y1233.length : Int)).bind fun bt1236 => ((some (([(-1), 5] : List Int) : List Int)).bind fun y1238 => ((spec_l20Rd_pick.f k x1000 bt1236.2 2).bind fun bt1241 => (if 0 ≤ bt1241.1 then (if bt1241.1 < (y1238.length : Int) then (if 0 ≤ bt1236.1 then (if bt1236.1 < (y1233.length : Int) then (some ((y1233.set (bt1236.1 : Int).toNat (⟨rd y1238 bt1241.1, (rd_T65 y1233 bt1236.1).f1⟩ : S65)), x7, bt1241.2)) else (none)) else (none)) else (none)) else (none)))))) else (none))) else (if bt1228.1 = 1 then ((some (([] : List (S65)) : List (S65))).bind fun y1245 => (if y1245.length + x6.length < 5864062014805 then ((some (y1245 ++ x6 : List (S65))).bind fun y1248 => (if 0 < (x6.length : Int) then ((some (([(⟨(rd_T65 x6 0).f0, (rd_T65 x6 0).f1⟩ : S65)] : List (S65)) : List (S65))).bind fun y1252 => (if y1248.length + y1252.length < 5864062014805 then (some ((y1248 ++ y1252), x7, bt1228.2)) else (none))) else (none))) else (none))) else ((some (([] : List (S65)) : List (S65))).bind fun y1258 => (if y1258.length + x6.length < 5864062014805 then ((some (y1258 ++ x6 : List (S65))).bind fun y1261 => (if 0 ≤ (wrap64 ((y1261.length : Int) - 1)) then (if (wrap64 ((y1261.length : Int) - 1)) < (y1261.length : Int) then (some ((y1261.set ((wrap64 ((y1261.length : Int) - 1)) : Int).toNat (⟨(rd_T65 y1261 (wrap64 ((y1261.length : Int) - 1))).f0, (⟨#[116, 117, 114, 110, 101, 100]⟩ : ByteArray)⟩ : S65)), x7, bt1228.2)) else (none)) else (none))) else (none)))))) else (some (x6, x7, bt1226.2))))
def spec_l20Store.f (k : Nat) (s0_0 : List Int) (s0_1 : Int) (a1 : Int) : Option ((List (S65)) × Int × Int) := (spec_EmptyRoot.f k (([] : List (S65)))).bind fun bt1213 => ((spec_l20Rd_pick.f k s0_0 s0_1 6).bind fun bt1218 => (spec_l20Store.l0 k a1 bt1213.1 bt1213.2.1 bt1218.1 s0_0 bt1218.2))
def spec_l20Store.T14 : Bool × List (List Nat × List Nat) := (true, [([], []), ([], []), ([0, 1], [0, 1]), ([], []), ([3], [3]), ([4], [4]), ([5], [5]), ([2, 6, 2], [2, 6]), ([7, 7, 0, 1, 2, 3, 4, 5, 6, 7], [1, 3, 7])])
def spec_l20Store.B14 : List Nat := [0, 0, 3, 0, 8, 24, 56, 127, 255]
theorem spec_l20Store.tab14 : rtab .any (opsOf Try.f78 14) = spec_l20Store.T14 := by kernel_rfl
theorem spec_l20Store.bits14 : waitsOk spec_l20Store.T14.2 spec_l20Store.B14 = true := by kernel_rfl
set_option maxHeartbeats 8000000 in
set_option maxRecDepth 100000 in
theorem spec_l20Store.calls (k : Nat) (g : Nat) (s0_0 : List Int) (s0_1 : Int) (a1 : Int) (r1 : List (S65)) (r2 : Int) (r3 : Int) (w0 w : World) (hI : IsS91 w0 w g s0_0 s0_1) (hB : Below w0.heap.size w0 w) (h : spec_l20Store.f k s0_0 s0_1 a1 = some (r1, r2, r3)) :
  Calls Try.prog 78 #[.pointer (some ⟨g, 0, none⟩), .int .i64 a1] w fun e w' => ∃ v0_ : Value, e = .returned (.tuple #[v0_, .int .i64 r2]) ∧ Kd.V k65 65 w' w.heap.size (fun k_ => (w.heap.size ≤ k_)) v0_ r1 ∧ IsS91 w0 w' g s0_0 r3 ∧ Below w0.heap.size w0 w' ∧ KeepBut w w' g none := by
 have hu65 := Try.underlying65
 have HI0 := Aside0.mk hI
 have HK := Aside0.mk (KeepBut.refl w g none)
 have HL := Aside0.mk hB.size
 clear hI
 have HW0 := Aside0.mk hB.size
 have HB := Aside0.mk hB
 clear hB
 have H : ((spec_EmptyRoot.f k (([] : List (S65)))).bind fun bt1213 => ((spec_l20Rd_pick.f k s0_0 s0_1 6).bind fun bt1218 => (spec_l20Store.l0 k a1 bt1213.1 bt1213.2.1 bt1218.1 s0_0 bt1218.2))) = some (r1, r2, r3) := h
 clear h
 obtain ⟨y1210, hy1210⟩ : ∃ y_ : List (S65), y_ = (([] : List (S65))) := ⟨_, rfl⟩
 replace H : ((spec_EmptyRoot.f k y1210).bind fun bt1213 => ((spec_l20Rd_pick.f k s0_0 s0_1 6).bind fun bt1218 => (spec_l20Store.l0 k a1 bt1213.1 bt1213.2.1 bt1218.1 s0_0 bt1218.2))) = some (r1, r2, r3) := hq_ hy1210 H
 have Ny1210 := Aside0.mk hy1210
 clear hy1210
 replace H := Option.bind_eq_some_iff.mp H
 obtain ⟨⟨t1213, t1214, t1215⟩, A30, H⟩ := H
 replace H : ((spec_l20Rd_pick.f k s0_0 s0_1 6).bind fun bt1218 => (spec_l20Store.l0 k a1 t1213 t1214 bt1218.1 s0_0 bt1218.2)) = some (r1, r2, r3) := H
 have A3 := Aside0.mk A30
 clear A30
 replace H := Option.bind_eq_some_iff.mp H
 obtain ⟨⟨t1218, t1219⟩, A40, H⟩ := H
 replace H : (spec_l20Store.l0 k a1 t1213 t1214 t1218 s0_0 t1219) = some (r1, r2, r3) := H
 have A4 := Aside0.mk A40
 clear A40
 have H' := Aside0.mk H
 clear H
 go_enter Try.func78, Try.ntmps78
 go_wp2_with (first | ((with_reducible refine gate_dst (N := 11) rfl ?_); refine Kd.R_lit k65 _ 65 ?hg (N := 11) ?hd (xs := ([] : List (S65))) (inner := []) (ok := fun _ => True) (okp := fun _ => True) ?hr ?hp (fun _ hk => hk) trivial (Below.refl _ _) (Nat.le_refl _) (by simp) ?_; (case hd => rfl); (case hg => rfl); (case hr => first | (go_simp; done) | (go_simp; rfl)); (case hp => exact (Reps.none _ _)); intro v1211 w5 ho6 hb hg_ hnew_; clear hg_ hnew_; (first | rw [← Ny1210.out] at ho6 | (simp only [Int.reduceToNat] at ho6; rw [← Ny1210.out] at ho6)); have HO1212 := Aside0.mk (Kd.R_lower (Kd.R_newM (M := fun k_ => (w.heap.size ≤ k_)) ho6 (keep_size (w := w) (g := g) (row := none) hK0_) (fun k_ h_ => h_)) (keep_size (w := w) (g := g) (row := none) hK0_)); replace HK := Aside0.mk (KeepBut.trans hK0_ (KeepBut.of_below hb g none) (.inl rfl)); replace HB := Aside0.mk (below_step (hs_ (IsS91.ge HI0.out)) hb); replace HI0 := Aside0.mk (IsS91.below (by repeat (first | (with_reducible first | exact HI0.out | apply IsS91.alloc | apply IsS91.drewN | apply IsS91.drew | apply IsS91.set_1) | exact HI0.out)) hb); clear hb ho6; obtain ⟨Ao7, co7, eo7⟩ := Kd.R_slice HO1212.out; subst eo7) | ((with_reducible refine gate_callee (f := 89) rfl ?_); refine gl_ (some 12) Try.func89 #[.slice Ao7 y1210.length co7] ?_; (with_reducible refine (spec_EmptyRoot.calls k _ _ y1210 t1213 t1214 t1215 _ ?side1 ?side2 A3.out).mono ?_); (case side1 => exact kC_ ((Kd.R_reads' HO1212.out).2.2)); (case side2 => exact (Kd.R_reads' HO1212.out).2.1); rintro e w8 ⟨v1216, rfl, ho0, hb⟩; refine ⟨_, rfl, ?_⟩; have HO1217 := Aside0.mk (Kd.R_lower (Kd.R_new' (Kd.R_newM (M := fun k_ => (w.heap.size ≤ k_)) ho0 (keep_size (w := w) (g := g) (row := none) hK0_) (fun k_ h_ => h_)) (Kd.R_lt (kR_ HO1212.out))) (keep_size (w := w) (g := g) (row := none) hK0_)); replace HO1212 := Aside0.mk (Kd.R_elder' (kR_ HO1212.out) (Kd.R_base ho0) hb); replace HK := Aside0.mk (KeepBut.trans hK0_ (KeepBut.of_below hb g none) (.inl rfl)); replace HB := Aside0.mk (below_step (hs_ (IsS91.ge HI0.out)) hb); replace HI0 := Aside0.mk (IsS91.below (by repeat (first | (with_reducible first | exact HI0.out | apply IsS91.alloc | apply IsS91.drewN | apply IsS91.drew | apply IsS91.set_1) | exact HI0.out)) hb); (try clear hb); (try clear hk); (try clear hi); (try clear ho0)) | ((with_reducible refine gate_callee (f := 70) rfl ?_); refine gl_ (some 17) Try.func70 #[.pointer (some ⟨g, 0, none⟩), .int .i64 6] ?_; (with_reducible refine (spec_l20Rd_pick.calls k g s0_0 s0_1 6 t1218 t1219 w0 _ ?side1 ?side2 A4.out).mono ?_); (case side1 => repeat (first | (with_reducible first | exact HI0.out | apply IsS91.alloc | apply IsS91.drewN | apply IsS91.drew | apply IsS91.set_1) | exact HI0.out)); (case side2 => exact hs_ (IsS91.ge HI0.out)); rintro e w9 ⟨rfl, hi, hb, hk⟩; refine ⟨_, rfl, ?_⟩; replace HO1212 := Aside0.mk (Kd.R_mono (Kd.R_keep (IsS91.apart (show IsS91 w0 _ g s0_0 s0_1 from by repeat (first | (with_reducible first | exact HI0.out | apply IsS91.alloc | apply IsS91.drewN | apply IsS91.drew | apply IsS91.set_1) | exact HI0.out)) (kR_ HO1212.out) (by decide)) hk (fun _ h => h.2)) (fun _ h => h.1)); replace HO1217 := Aside0.mk (Kd.R_mono (Kd.R_keep (IsS91.apart (show IsS91 w0 _ g s0_0 s0_1 from by repeat (first | (with_reducible first | exact HI0.out | apply IsS91.alloc | apply IsS91.drewN | apply IsS91.drew | apply IsS91.set_1) | exact HI0.out)) (kR_ HO1217.out) (by decide)) hk (fun _ h => h.2)) (fun _ h => h.1)); replace HK := Aside0.mk (KeepBut.trans hK0_ hk (.inl rfl)); replace HB := Aside0.mk (hb); replace HI0 := Aside0.mk (hi); (try clear hb); (try clear hk); (try clear hi)))
 go_loopg [6, 7, 9] k (fun kq v6 v7 v9 w' => ∃ (x6_1 : List (S65)) (x7_1 : Int) (x9_1 : Int) (x1001_1 : Int), v7 = .int .i64 x7_1 ∧ v9 = .int .i64 x9_1 ∧ Aside0 (spec_l20Store.l0 kq a1 x6_1 x7_1 x9_1 s0_0 x1001_1 = some (r1, r2, r3)) ∧ Aside0 (kq ≤ k) ∧ Aside0 (Kd.V k65 65 w' w.heap.size (fun k_ => (w.heap.size ≤ k_) ∧ k_ ≠ g) v6 x6_1) ∧ Aside0 (IsS91 w0 w' g s0_0 x1001_1) ∧ Aside0 (KeepBut w w' g none) ∧ Aside0 (Below w0.heap.size w0 w'))
 case atStart => exact ⟨(t1213), (t1214), (t1218), (t1219), rs_, rs_, H', ⟨Nat.le_refl _⟩, ⟨Kd.R_V (by refine kR_ ?_; exact Kd.R_mono (IsS91.apart HI0.out HO1217.out (by decide)) (fun _ hk => ⟨hk.1.1.1, hk.2⟩))⟩, ⟨by repeat (first | (with_reducible first | exact HI0.out | apply IsS91.alloc | apply IsS91.drewN | apply IsS91.drew | apply IsS91.set_1) | exact HI0.out)⟩, ⟨by repeat (first | (with_reducible first | exact HK.out | apply KeepBut.set_ | apply keep_drewN | apply keep_drew | apply keep_alloc) | exact HK.out)⟩, ⟨by repeat (first | (with_reducible first | exact HB.out | apply below_alloc | apply pw_below_drewN | apply below_drew1 | refine below_set ?_ (IsS91.ge HI0.out)) | exact HB.out)⟩⟩
 case round =>
  clear H'
  try clear p2
  try clear c7
  try clear c8
  obtain ⟨x6_1, x7_1, x9_1, x1001_1, rfl, rfl, HA, HK1, HO_6, HI0, HK, HB⟩ := hrel
  cases gk with
  | zero => exact absurd HA.out (by simp [spec_l20Store.l0])
  | succ k1 =>
   have H := HA.out
   clear HA
   simp only [spec_l20Store.l0] at H
   by_cases c10 : x9_1 > 0
   ·rw [if_pos c10] at H
    have c10b0 : decide (0 < x9_1) = true := decide_eq_true c10
    clear c10
    replace H := Option.bind_eq_some_iff.mp H
    obtain ⟨⟨t1220, t1223, t1224, t1225⟩, A110, H⟩ := H
    replace H : (spec_l20Store.l0 k1 a1 t1220 t1223 (wrap64 (x9_1 - 1)) s0_0 t1225) = some (r1, r2, r3) := H
    have A11 := Aside0.mk A110
    clear A110
    have H' := Aside0.mk H
    clear H
    obtain ⟨Ao12, co12, eo12⟩ := Kd.V_slice HO_6.out
    subst eo12
    go_wp2_with (first | ((with_reducible refine gate_callee (f := 90) rfl ?_); refine gl_ (some 26) Try.func90 #[.pointer (some ⟨g, 0, none⟩), .slice Ao12 x6_1.length co12, .int .i64 x7_1] ?_; (with_reducible refine (spec_l20Step.calls k1 g s0_0 x1001_1 (fun k_ => ((w.heap.size ≤ k_) ∧ k_ ≠ g)) _ _ x6_1 x7_1 t1220 t1223 t1224 t1225 w0 _ ?side1 ?side2 ?side3 A11.out).mono ?_); (case side1 => repeat (first | (with_reducible first | exact HI0.out | apply IsS91.alloc | apply IsS91.drewN | apply IsS91.drew | apply IsS91.set_1) | exact HI0.out)); (case side2 => exact hs_ (IsS91.ge HI0.out)); (case side3 => exact Kd.V_mono (HO_6.out) (fun k_ hk_ => ⟨hk_, hk_.2⟩)); rintro e w13 ⟨v1221, rfl, ho0, hi, hb, hk⟩; refine ⟨_, rfl, ?_⟩; have n0_ := Aside0.mk (Kd.V_mono (Kd.V_keep (Kd.V_mono (ok := fun k_ => (((w.heap.size ≤ k_)) ∧ k_ ≠ g)) (kV_ HO_6.out) (fun k_ hk_ => (⟨hk_, hk_.2⟩ : _ ∧ k_ ≠ g))) hk (fun _ h => h.2)) (fun _ h => h.1)); have n1_ := Aside0.mk (Kd.V_lower (Kd.V_mono (ok' := fun k_ => (w.heap.size ≤ k_) ∧ k_ ≠ g) ho0 (fun k_ hk_ => ⟨Or.elim hk_ (fun hs_ => hs_.1) (fun hn_ => (Nat.le_trans (keep_size (w := w) (g := g) (row := none) hK0_) hn_)), Or.elim hk_ (fun hs_ => hs_.2) (fun hn_ => (IsS91.fresh (by repeat (first | (with_reducible first | exact HI0.out | apply IsS91.alloc | apply IsS91.drewN | apply IsS91.drew | apply IsS91.set_1) | exact HI0.out)) k_ hn_))⟩)) (keep_size (w := w) (g := g) (row := none) hK0_)); have n2_ := Aside0.mk (KeepBut.trans hK0_ hk (.inl rfl)); have n3_ := Aside0.mk (hb); have n4_ := Aside0.mk (hi); clear HO_6; clear HK; clear HB; clear HI0; have HO_6 := n0_; have HO1222 := n1_; have HK := n2_; have HB := n3_; have HI0 := n4_; clear n0_ n1_ n2_ n3_ n4_; (try clear hb); (try clear hk); (try clear hi); (try clear ho0)))
    go_roundg k1
    case measure => have := HK1.out; omega
    case rel => exact ⟨(t1220), (t1223), (wrap64 (x9_1 - 1)), (t1225), rs_, rs_, H', ⟨by have := HK1.out; omega⟩, ⟨by refine kV_ ?_; exact HO1222.out⟩, ⟨by repeat (first | (with_reducible first | exact HI0.out | apply IsS91.alloc | apply IsS91.drewN | apply IsS91.drew | apply IsS91.set_1) | exact HI0.out)⟩, ⟨by repeat (first | (with_reducible first | exact HK.out | apply KeepBut.set_ | apply keep_drewN | apply keep_drew | apply keep_alloc) | exact HK.out)⟩, ⟨by repeat (first | (with_reducible first | exact HB.out | apply below_alloc | apply pw_below_drewN | apply below_drew1 | refine below_set ?_ (IsS91.ge HI0.out)) | exact HB.out)⟩⟩
   ·rw [if_neg c10] at H
    have c10b0 : decide (0 < x9_1) = false := decide_eq_false c10
    clear c10
    replace H := Option.bind_eq_some_iff.mp H
    obtain ⟨⟨t1226, t1227⟩, A140, H⟩ := H
    replace H : (if t1226 = true then ((spec_l20Rd_pick.f k1 s0_0 t1227 3).bind fun bt1228 => (if bt1228.1 = 0 then ((some (([] : List (S65)) : List (S65))).bind fun y1230 => (if y1230.length + x6_1.length < 5864062014805 then ((some (y1230 ++ x6_1 : List (S65))).bind fun y1233 => ((spec_l20Rd_pick.f k1 s0_0 bt1228.2 (y1233.length : Int)).bind fun bt1236 => ((some (([(-1), 5] : List Int) : List Int)).bind fun y1238 => ((spec_l20Rd_pick.f k1 s0_0 bt1236.2 2).bind fun bt1241 => (if 0 ≤ bt1241.1 then (if bt1241.1 < (y1238.length : Int) then (if 0 ≤ bt1236.1 then (if bt1236.1 < (y1233.length : Int) then (some ((y1233.set (bt1236.1 : Int).toNat (⟨rd y1238 bt1241.1, (rd_T65 y1233 bt1236.1).f1⟩ : S65)), x7_1, bt1241.2)) else (none)) else (none)) else (none)) else (none)))))) else (none))) else (if bt1228.1 = 1 then ((some (([] : List (S65)) : List (S65))).bind fun y1245 => (if y1245.length + x6_1.length < 5864062014805 then ((some (y1245 ++ x6_1 : List (S65))).bind fun y1248 => (if 0 < (x6_1.length : Int) then ((some (([(⟨(rd_T65 x6_1 0).f0, (rd_T65 x6_1 0).f1⟩ : S65)] : List (S65)) : List (S65))).bind fun y1252 => (if y1248.length + y1252.length < 5864062014805 then (some ((y1248 ++ y1252), x7_1, bt1228.2)) else (none))) else (none))) else (none))) else ((some (([] : List (S65)) : List (S65))).bind fun y1258 => (if y1258.length + x6_1.length < 5864062014805 then ((some (y1258 ++ x6_1 : List (S65))).bind fun y1261 => (if 0 ≤ (wrap64 ((y1261.length : Int) - 1)) then (if (wrap64 ((y1261.length : Int) - 1)) < (y1261.length : Int) then (some ((y1261.set ((wrap64 ((y1261.length : Int) - 1)) : Int).toNat (⟨(rd_T65 y1261 (wrap64 ((y1261.length : Int) - 1))).f0, (⟨#[116, 117, 114, 110, 101, 100]⟩ : ByteArray)⟩ : S65)), x7_1, bt1228.2)) else (none)) else (none))) else (none)))))) else (some (x6_1, x7_1, t1227))) = some (r1, r2, r3) := H
    have A14 := Aside0.mk A140
    clear A140
    by_cases c15 : t1226 = true
    ·subst c15
     have H1 : ((spec_l20Rd_pick.f k1 s0_0 t1227 3).bind fun bt1228 => (if bt1228.1 = 0 then ((some (([] : List (S65)) : List (S65))).bind fun y1230 => (if y1230.length + x6_1.length < 5864062014805 then ((some (y1230 ++ x6_1 : List (S65))).bind fun y1233 => ((spec_l20Rd_pick.f k1 s0_0 bt1228.2 (y1233.length : Int)).bind fun bt1236 => ((some (([(-1), 5] : List Int) : List Int)).bind fun y1238 => ((spec_l20Rd_pick.f k1 s0_0 bt1236.2 2).bind fun bt1241 => (if 0 ≤ bt1241.1 then (if bt1241.1 < (y1238.length : Int) then (if 0 ≤ bt1236.1 then (if bt1236.1 < (y1233.length : Int) then (some ((y1233.set (bt1236.1 : Int).toNat (⟨rd y1238 bt1241.1, (rd_T65 y1233 bt1236.1).f1⟩ : S65)), x7_1, bt1241.2)) else (none)) else (none)) else (none)) else (none)))))) else (none))) else (if bt1228.1 = 1 then ((some (([] : List (S65)) : List (S65))).bind fun y1245 => (if y1245.length + x6_1.length < 5864062014805 then ((some (y1245 ++ x6_1 : List (S65))).bind fun y1248 => (if 0 < (x6_1.length : Int) then ((some (([(⟨(rd_T65 x6_1 0).f0, (rd_T65 x6_1 0).f1⟩ : S65)] : List (S65)) : List (S65))).bind fun y1252 => (if y1248.length + y1252.length < 5864062014805 then (some ((y1248 ++ y1252), x7_1, bt1228.2)) else (none))) else (none))) else (none))) else ((some (([] : List (S65)) : List (S65))).bind fun y1258 => (if y1258.length + x6_1.length < 5864062014805 then ((some (y1258 ++ x6_1 : List (S65))).bind fun y1261 => (if 0 ≤ (wrap64 ((y1261.length : Int) - 1)) then (if (wrap64 ((y1261.length : Int) - 1)) < (y1261.length : Int) then (some ((y1261.set ((wrap64 ((y1261.length : Int) - 1)) : Int).toNat (⟨(rd_T65 y1261 (wrap64 ((y1261.length : Int) - 1))).f0, (⟨#[116, 117, 114, 110, 101, 100]⟩ : ByteArray)⟩ : S65)), x7_1, bt1228.2)) else (none)) else (none))) else (none)))))) = some (r1, r2, r3) := by rw [if_pos rfl] at H; exact H
     clear H
     have H := H1
     clear H1
     replace H := Option.bind_eq_some_iff.mp H
     obtain ⟨⟨t1228, t1229⟩, A160, H⟩ := H
     replace H : (if t1228 = 0 then ((some (([] : List (S65)) : List (S65))).bind fun y1230 => (if y1230.length + x6_1.length < 5864062014805 then ((some (y1230 ++ x6_1 : List (S65))).bind fun y1233 => ((spec_l20Rd_pick.f k1 s0_0 t1229 (y1233.length : Int)).bind fun bt1236 => ((some (([(-1), 5] : List Int) : List Int)).bind fun y1238 => ((spec_l20Rd_pick.f k1 s0_0 bt1236.2 2).bind fun bt1241 => (if 0 ≤ bt1241.1 then (if bt1241.1 < (y1238.length : Int) then (if 0 ≤ bt1236.1 then (if bt1236.1 < (y1233.length : Int) then (some ((y1233.set (bt1236.1 : Int).toNat (⟨rd y1238 bt1241.1, (rd_T65 y1233 bt1236.1).f1⟩ : S65)), x7_1, bt1241.2)) else (none)) else (none)) else (none)) else (none)))))) else (none))) else (if t1228 = 1 then ((some (([] : List (S65)) : List (S65))).bind fun y1245 => (if y1245.length + x6_1.length < 5864062014805 then ((some (y1245 ++ x6_1 : List (S65))).bind fun y1248 => (if 0 < (x6_1.length : Int) then ((some (([(⟨(rd_T65 x6_1 0).f0, (rd_T65 x6_1 0).f1⟩ : S65)] : List (S65)) : List (S65))).bind fun y1252 => (if y1248.length + y1252.length < 5864062014805 then (some ((y1248 ++ y1252), x7_1, t1229)) else (none))) else (none))) else (none))) else ((some (([] : List (S65)) : List (S65))).bind fun y1258 => (if y1258.length + x6_1.length < 5864062014805 then ((some (y1258 ++ x6_1 : List (S65))).bind fun y1261 => (if 0 ≤ (wrap64 ((y1261.length : Int) - 1)) then (if (wrap64 ((y1261.length : Int) - 1)) < (y1261.length : Int) then (some ((y1261.set ((wrap64 ((y1261.length : Int) - 1)) : Int).toNat (⟨(rd_T65 y1261 (wrap64 ((y1261.length : Int) - 1))).f0, (⟨#[116, 117, 114, 110, 101, 100]⟩ : ByteArray)⟩ : S65)), x7_1, t1229)) else (none)) else (none))) else (none))))) = some (r1, r2, r3) := H
     have A16 := Aside0.mk A160
     clear A160
     by_cases c17 : t1228 = 0
     ·rw [if_pos c17] at H
      have c17b0 : (t1228 == 0) = true := beq_iff_eq.mpr c17
      have c17b1 : (t1228 != 0) = false := bne_eq_false_iff_eq.mpr c17
      clear c17
      obtain ⟨y1230, hy1230⟩ : ∃ y_ : List (S65), y_ = (([] : List (S65))) := ⟨_, rfl⟩
      replace H : (if y1230.length + x6_1.length < 5864062014805 then ((some (y1230 ++ x6_1 : List (S65))).bind fun y1233 => ((spec_l20Rd_pick.f k1 s0_0 t1229 (y1233.length : Int)).bind fun bt1236 => ((some (([(-1), 5] : List Int) : List Int)).bind fun y1238 => ((spec_l20Rd_pick.f k1 s0_0 bt1236.2 2).bind fun bt1241 => (if 0 ≤ bt1241.1 then (if bt1241.1 < (y1238.length : Int) then (if 0 ≤ bt1236.1 then (if bt1236.1 < (y1233.length : Int) then (some ((y1233.set (bt1236.1 : Int).toNat (⟨rd y1238 bt1241.1, (rd_T65 y1233 bt1236.1).f1⟩ : S65)), x7_1, bt1241.2)) else (none)) else (none)) else (none)) else (none)))))) else (none)) = some (r1, r2, r3) := hq_ hy1230 H
      have Ny1230 := Aside0.mk hy1230
      clear hy1230
      by_cases c18 : y1230.length + x6_1.length < 5864062014805; rotate_left
      ·rw [if_neg c18] at H; exact absurd H (by simp)
      rw [if_pos c18] at H
      have LMc18 := Aside0.mk c18
      clear c18
      obtain ⟨y1233, hy1233⟩ : ∃ y_ : List (S65), y_ = (y1230 ++ x6_1) := ⟨_, rfl⟩
      replace H : ((spec_l20Rd_pick.f k1 s0_0 t1229 (y1233.length : Int)).bind fun bt1236 => ((some (([(-1), 5] : List Int) : List Int)).bind fun y1238 => ((spec_l20Rd_pick.f k1 s0_0 bt1236.2 2).bind fun bt1241 => (if 0 ≤ bt1241.1 then (if bt1241.1 < (y1238.length : Int) then (if 0 ≤ bt1236.1 then (if bt1236.1 < (y1233.length : Int) then (some ((y1233.set (bt1236.1 : Int).toNat (⟨rd y1238 bt1241.1, (rd_T65 y1233 bt1236.1).f1⟩ : S65)), x7_1, bt1241.2)) else (none)) else (none)) else (none)) else (none))))) = some (r1, r2, r3) := hq_ hy1233 H
      have Ny1233 := Aside0.mk hy1233
      clear hy1233
      replace H := Option.bind_eq_some_iff.mp H
      obtain ⟨⟨t1236, t1237⟩, A190, H⟩ := H
      replace H : ((some (([(-1), 5] : List Int) : List Int)).bind fun y1238 => ((spec_l20Rd_pick.f k1 s0_0 t1237 2).bind fun bt1241 => (if 0 ≤ bt1241.1 then (if bt1241.1 < (y1238.length : Int) then (if 0 ≤ t1236 then (if t1236 < (y1233.length : Int) then (some ((y1233.set (t1236 : Int).toNat (⟨rd y1238 bt1241.1, (rd_T65 y1233 t1236).f1⟩ : S65)), x7_1, bt1241.2)) else (none)) else (none)) else (none)) else (none)))) = some (r1, r2, r3) := H
      have A19 := Aside0.mk A190
      clear A190
      obtain ⟨y1238, hy1238⟩ : ∃ y_ : List Int, y_ = (([(-1), 5] : List Int)) := ⟨_, rfl⟩
      replace H : ((spec_l20Rd_pick.f k1 s0_0 t1237 2).bind fun bt1241 => (if 0 ≤ bt1241.1 then (if bt1241.1 < (y1238.length : Int) then (if 0 ≤ t1236 then (if t1236 < (y1233.length : Int) then (some ((y1233.set (t1236 : Int).toNat (⟨rd y1238 bt1241.1, (rd_T65 y1233 t1236).f1⟩ : S65)), x7_1, bt1241.2)) else (none)) else (none)) else (none)) else (none))) = some (r1, r2, r3) := hq_ hy1238 H
      have Ny1238 := Aside0.mk hy1238
      clear hy1238
      replace H := Option.bind_eq_some_iff.mp H
      obtain ⟨⟨t1241, t1242⟩, A200, H⟩ := H
      replace H : (if 0 ≤ t1241 then (if t1241 < (y1238.length : Int) then (if 0 ≤ t1236 then (if t1236 < (y1233.length : Int) then (some ((y1233.set (t1236 : Int).toNat (⟨rd y1238 t1241, (rd_T65 y1233 t1236).f1⟩ : S65)), x7_1, t1242)) else (none)) else (none)) else (none)) else (none)) = some (r1, r2, r3) := H
      have A20 := Aside0.mk A200
      clear A200
      by_cases c21 : 0 ≤ t1241; rotate_left
      ·rw [if_neg c21] at H; exact absurd H (by simp)
      rw [if_pos c21] at H
      have c21b0 : decide (0 ≤ t1241) = true := decide_eq_true c21
      clear c21
      by_cases c22 : t1241 < (y1238.length : Int); rotate_left
      ·rw [if_neg c22] at H; exact absurd H (by simp)
      rw [if_pos c22] at H
      have c22b0 : decide (t1241 < (y1238.length : Int)) = true := decide_eq_true c22
      clear c22
      by_cases c23 : 0 ≤ t1236; rotate_left
      ·rw [if_neg c23] at H; exact absurd H (by simp)
      rw [if_pos c23] at H
      have c23b0 : decide (0 ≤ t1236) = true := decide_eq_true c23
      clear c23
      by_cases c24 : t1236 < (y1233.length : Int); rotate_left
      ·rw [if_neg c24] at H; exact absurd H (by simp)
      rw [if_pos c24] at H
      have c24b0 : decide (t1236 < (y1233.length : Int)) = true := decide_eq_true c24
      clear c24
      obtain ⟨y1244, hy1244⟩ : ∃ y_ : List (S65), y_ = (y1233.set (t1236 : Int).toNat (⟨rd y1238 t1241, (rd_T65 y1233 t1236).f1⟩ : S65)) := ⟨_, rfl⟩
      replace H : (some (y1244, x7_1, t1242)) = some (r1, r2, r3) := hq_ hy1244 H
      have Ny1244 := Aside0.mk hy1244
      clear hy1244
      simp only [Option.some.injEq, Prod.mk.injEq] at H
      obtain ⟨rfl, rfl, rfl⟩ := H
      go_wp2_with (first | ((with_reducible refine gate_callee (f := 74) rfl ?_); refine gl_ (some 32) Try.func74 #[.pointer (some ⟨g, 0, none⟩), .int .i64 a1] ?_; (with_reducible refine (spec_l20Rd_odd.calls k1 g s0_0 x1001_1 a1 true t1227 w0 _ ?side1 ?side2 A14.out).mono ?_); (case side1 => repeat (first | (with_reducible first | exact HI0.out | apply IsS91.alloc | apply IsS91.drewN | apply IsS91.drew | apply IsS91.set_1) | exact HI0.out)); (case side2 => exact hs_ (IsS91.ge HI0.out)); rintro e w26 ⟨rfl, hi, hb, hk⟩; refine ⟨_, rfl, ?_⟩; have n0_ := Aside0.mk (Kd.V_mono (Kd.V_keep (Kd.V_mono (ok := fun k_ => (((w.heap.size ≤ k_)) ∧ k_ ≠ g)) (kV_ HO_6.out) (fun k_ hk_ => (⟨hk_, hk_.2⟩ : _ ∧ k_ ≠ g))) hk (fun _ h => h.2)) (fun _ h => h.1)); have n1_ := Aside0.mk (KeepBut.trans hK0_ hk (.inl rfl)); have n2_ := Aside0.mk (hb); have n3_ := Aside0.mk (hi); clear HO_6; clear HK; clear HB; clear HI0; have HO_6 := n0_; have HK := n1_; have HB := n2_; have HI0 := n3_; clear n0_ n1_ n2_ n3_; (try clear hb); (try clear hk); (try clear hi)) | ((with_reducible refine gate_callee (f := 70) rfl ?_); refine gl_ (some 34) Try.func70 #[.pointer (some ⟨g, 0, none⟩), .int .i64 3] ?_; (with_reducible refine (spec_l20Rd_pick.calls k1 g s0_0 t1227 3 t1228 t1229 w0 _ ?side1 ?side2 A16.out).mono ?_); (case side1 => repeat (first | (with_reducible first | exact HI0.out | apply IsS91.alloc | apply IsS91.drewN | apply IsS91.drew | apply IsS91.set_1) | exact HI0.out)); (case side2 => exact hs_ (IsS91.ge HI0.out)); rintro e w27 ⟨rfl, hi, hb, hk⟩; refine ⟨_, rfl, ?_⟩; have n0_ := Aside0.mk (Kd.V_mono (Kd.V_keep (Kd.V_mono (ok := fun k_ => (((w.heap.size ≤ k_)) ∧ k_ ≠ g)) (kV_ HO_6.out) (fun k_ hk_ => (⟨hk_, hk_.2⟩ : _ ∧ k_ ≠ g))) hk (fun _ h => h.2)) (fun _ h => h.1)); have n1_ := Aside0.mk (KeepBut.trans hK0_ hk (.inl rfl)); have n2_ := Aside0.mk (hb); have n3_ := Aside0.mk (hi); clear HO_6; clear HK; clear HB; clear HI0; have HO_6 := n0_; have HK := n1_; have HB := n2_; have HI0 := n3_; clear n0_ n1_ n2_ n3_; (try clear hb); (try clear hk); (try clear hi)) | ((with_reducible refine gate_dst (N := 46) rfl ?_); refine Kd.R_lit k65 _ 65 ?hg (N := 46) ?hd (xs := ([] : List (S65))) (inner := []) (ok := fun _ => True) (okp := fun _ => True) ?hr ?hp (fun _ hk => hk) trivial (Below.refl _ _) (Nat.le_refl _) (by simp) ?_; (case hd => rfl); (case hg => rfl); (case hr => first | (go_simp; done) | (go_simp; rfl)); (case hp => exact (Reps.none _ _)); intro v1231 w28 ho29 hb hg_ hnew_; clear hg_ hnew_; (first | rw [← Ny1230.out] at ho29 | (simp only [Int.reduceToNat] at ho29; rw [← Ny1230.out] at ho29)); have n0_ := Aside0.mk (Kd.V_elder' (kV_ HO_6.out) (Kd.R_base ho29) hb); have n1_ := Aside0.mk (Kd.R_lower (Kd.R_newM (M := fun k_ => (w.heap.size ≤ k_)) ho29 (keep_size (w := w) (g := g) (row := none) hK0_) (fun k_ h_ => h_)) (keep_size (w := w) (g := g) (row := none) hK0_)); have n2_ := Aside0.mk (IsS91.below (by repeat (first | (with_reducible first | exact HI0.out | apply IsS91.alloc | apply IsS91.drewN | apply IsS91.drew | apply IsS91.set_1) | exact HI0.out)) hb); have n3_ := Aside0.mk (KeepBut.trans hK0_ (KeepBut.of_below hb g none) (.inl rfl)); have n4_ := Aside0.mk (below_step (hs_ (IsS91.ge HI0.out)) hb); clear HO_6; clear HI0; clear HK; clear HB; have HO_6 := n0_; have HO1232 := n1_; have HI0 := n2_; have HK := n3_; have HB := n4_; clear n0_ n1_ n2_ n3_ n4_; clear hb ho29; obtain ⟨Ao31, co31, eo31⟩ := Kd.V_slice HO_6.out; subst eo31) | ((with_reducible refine gate_builtin (b := .append) (xs := #[.tmp 46, .tmp 47]) rfl ?_); at_builtin; refine Kd.R_append_rows k65 w.heap.size rfl (.tmp 46) (.tmp 47) 51 65 (.agg #[(.int .i64 0), (.string ⟨#[]⟩)]) 24 rfl Try.underlying51 info65 rfl (by decide) (by omega) v1231 y1230 x6_1 _ _ _ (fun k_ => (w.heap.size ≤ k_)) (fun _ => False) rfl rfl ?aO ?aR (fun _ _ h => h) (fun _ h => h.elim) ?aF (Below.refl _ _) ?aS ?aL ?_; (case aR => repeat (first | exact (Kd.V_reads' HO_6.out).2.2 | (with_reducible refine Kd.C_alloc ?_ _) | (with_reducible refine Kd.C_drewN ?_ _) | (with_reducible refine Kd.C_drew ?_))); (case aF => exact (fun k_ hk => (Nat.le_trans (keep_size (w := w) (g := g) (row := none) hK0_) hk))); (case aO => exact (by refine kR_ ?_; exact Kd.R_mono HO1232.out (fun _ hk => hk.1))); (case aS => exact (keep_size (w := w) (g := g) (row := none) hK0_)); (case aL => have := LMc18.out; omega); intro v1234 w30 ho hb hg hat; rw [← Ny1233.out] at ho; have n0_ := Aside0.mk (Kd.V_afterv (ok := (fun k_ => (w.heap.size ≤ k_) ∧ k_ ≠ g)) (kV_ HO_6.out) hg hat); have n1_ := Aside0.mk (IsS91.grown (by repeat (first | (with_reducible first | exact HI0.out | apply IsS91.alloc | apply IsS91.drewN | apply IsS91.drew | apply IsS91.set_1) | exact HI0.out)) hg (IsS91.own_ne HI0.out HO1232.out (by decide))); have n2_ := Aside0.mk (below_weaken (hs_ (IsS91.ge HI0.out)) HL.out hb); have n3_ := Aside0.mk (KeepBut.trans hK0_ (KeepBut.of_grown hg g) (Kd.R_base2 HO1232.out)); have n4_ := Aside0.mk (ho); clear HO_6; clear HI0; clear HB; clear HK; clear HO1232; have HO_6 := n0_; have HI0 := n1_; have HB := n2_; have HK := n3_; have HO1235 := n4_; clear n0_ n1_ n2_ n3_ n4_; clear ho hb hg hat; obtain ⟨Ao32, co32, eo32⟩ := Kd.R_slice HO1235.out; subst eo32) | ((with_reducible refine gate_callee (f := 70) rfl ?_); refine gl_ (some 53) Try.func70 #[.pointer (some ⟨g, 0, none⟩), .int .i64 (y1233.length : Int)] ?_; (with_reducible refine (spec_l20Rd_pick.calls k1 g s0_0 t1229 (y1233.length : Int) t1236 t1237 w0 _ ?side1 ?side2 A19.out).mono ?_); (case side1 => repeat (first | (with_reducible first | exact HI0.out | apply IsS91.alloc | apply IsS91.drewN | apply IsS91.drew | apply IsS91.set_1) | exact HI0.out)); (case side2 => exact hs_ (IsS91.ge HI0.out)); rintro e w33 ⟨rfl, hi, hb, hk⟩; refine ⟨_, rfl, ?_⟩; have n0_ := Aside0.mk (Kd.V_mono (Kd.V_keep (Kd.V_mono (ok := fun k_ => ((((w.heap.size ≤ k_)) ∧ k_ ≠ g) ∧ some k_ ≠ (.slice Ao32 y1233.length co32 : Value).ownBlock)) (kV_ HO_6.out) (fun k_ hk_ => (⟨hk_, hk_.1.2⟩ : _ ∧ k_ ≠ g))) hk (fun _ h => h.2)) (fun _ h => h.1)); have n1_ := Aside0.mk (Kd.R_mono (Kd.R_keep (IsS91.apart (show IsS91 w0 _ g s0_0 t1229 from by repeat (first | (with_reducible first | exact HI0.out | apply IsS91.alloc | apply IsS91.drewN | apply IsS91.drew | apply IsS91.set_1) | exact HI0.out)) (kR_ HO1235.out) (by decide)) hk (fun _ h => h.2)) (fun _ h => h.1)); have n2_ := Aside0.mk (KeepBut.trans hK0_ hk (.inl rfl)); have n3_ := Aside0.mk (hb); have n4_ := Aside0.mk (hi); clear HO_6; clear HO1235; clear HK; clear HB; clear HI0; have HO_6 := n0_; have HO1235 := n1_; have HK := n2_; have HB := n3_; have HI0 := n4_; clear n0_ n1_ n2_ n3_ n4_; (try clear hb); (try clear hk); (try clear hi)) | ((with_reducible refine gate_dst (N := 54) rfl ?_); refine Kd.R_lit (Kd.int .i64) _ 3 ?hg (N := 54) ?hd (xs := ([(-1), 5] : List Int)) (inner := [.int .i64 (-1), .int .i64 5]) (ok := fun _ => True) (okp := fun _ => True) ?hr ?hp (fun _ hk => hk) trivial (Below.refl _ _) (Nat.le_refl _) (by simp) ?_; (case hd => rfl); (case hg => rfl); (case hr => first | (go_simp; done) | (go_simp; rfl)); (case hp => exact (Reps.one (show Kd.M (Kd.int .i64) _ _ _ (-1) [.int .i64 (-1)] from rfl) (Reps.one (show Kd.M (Kd.int .i64) _ _ _ 5 [.int .i64 5] from rfl) (Reps.none _ _)))); intro v1239 w34 ho35 hb hg_ hnew_; clear hg_ hnew_; (first | rw [← Ny1238.out] at ho35 | (simp only [Int.reduceToNat] at ho35; rw [← Ny1238.out] at ho35)); have n0_ := Aside0.mk (Kd.V_elder' (kV_ HO_6.out) (Kd.R_base ho35) hb); have n1_ := Aside0.mk (Kd.R_below (kR_ HO1235.out) hb); have n2_ := Aside0.mk (Kd.R_lower (Kd.R_newM (M := fun k_ => (w.heap.size ≤ k_)) ho35 (keep_size (w := w) (g := g) (row := none) hK0_) (fun k_ h_ => h_)) (keep_size (w := w) (g := g) (row := none) hK0_)); have n3_ := Aside0.mk (IsS91.below (by repeat (first | (with_reducible first | exact HI0.out | apply IsS91.alloc | apply IsS91.drewN | apply IsS91.drew | apply IsS91.set_1) | exact HI0.out)) hb); have n4_ := Aside0.mk (KeepBut.trans hK0_ (KeepBut.of_below hb g none) (.inl rfl)); have n5_ := Aside0.mk (below_step (hs_ (IsS91.ge HI0.out)) hb); clear HO_6; clear HO1235; clear HI0; clear HK; clear HB; have HO_6 := n0_; have HO1235 := n1_; have HO1240 := n2_; have HI0 := n3_; have HK := n4_; have HB := n5_; clear n0_ n1_ n2_ n3_ n4_ n5_; clear hb ho35) | ((with_reducible refine gate_callee (f := 70) rfl ?_); refine gl_ (some 56) Try.func70 #[.pointer (some ⟨g, 0, none⟩), .int .i64 2] ?_; (with_reducible refine (spec_l20Rd_pick.calls k1 g s0_0 t1237 2 t1241 t1242 w0 _ ?side1 ?side2 A20.out).mono ?_); (case side1 => repeat (first | (with_reducible first | exact HI0.out | apply IsS91.alloc | apply IsS91.drewN | apply IsS91.drew | apply IsS91.set_1) | exact HI0.out)); (case side2 => exact hs_ (IsS91.ge HI0.out)); rintro e w36 ⟨rfl, hi, hb, hk⟩; refine ⟨_, rfl, ?_⟩; have n0_ := Aside0.mk (Kd.V_mono (Kd.V_keep (Kd.V_mono (ok := fun k_ => (((((w.heap.size ≤ k_)) ∧ k_ ≠ g) ∧ some k_ ≠ (.slice Ao32 y1233.length co32 : Value).ownBlock) ∧ some k_ ≠ (v1239 : Value).ownBlock)) (kV_ HO_6.out) (fun k_ hk_ => (⟨hk_, hk_.1.1.2⟩ : _ ∧ k_ ≠ g))) hk (fun _ h => h.2)) (fun _ h => h.1)); have n1_ := Aside0.mk (Kd.R_mono (Kd.R_keep (IsS91.apart (show IsS91 w0 _ g s0_0 t1237 from by repeat (first | (with_reducible first | exact HI0.out | apply IsS91.alloc | apply IsS91.drewN | apply IsS91.drew | apply IsS91.set_1) | exact HI0.out)) (kR_ HO1235.out) (by decide)) hk (fun _ h => h.2)) (fun _ h => h.1)); have n2_ := Aside0.mk (Kd.R_mono (Kd.R_keep (IsS91.apart (show IsS91 w0 _ g s0_0 t1237 from by repeat (first | (with_reducible first | exact HI0.out | apply IsS91.alloc | apply IsS91.drewN | apply IsS91.drew | apply IsS91.set_1) | exact HI0.out)) (kR_ HO1240.out) (by decide)) hk (fun _ h => h.2)) (fun _ h => h.1)); have n3_ := Aside0.mk (KeepBut.trans hK0_ hk (.inl rfl)); have n4_ := Aside0.mk (hb); have n5_ := Aside0.mk (hi); clear HO_6; clear HO1235; clear HO1240; clear HK; clear HB; clear HI0; have HO_6 := n0_; have HO1235 := n1_; have HO1240 := n2_; have HK := n3_; have HB := n4_; have HI0 := n5_; clear n0_ n1_ n2_ n3_ n4_ n5_; (try clear hb); (try clear hk); (try clear hi); obtain ⟨Ao37, co37, eo37⟩ := Kd.R_slice HO1240.out; subst eo37; have p1243 : 0 ≤ (t1241 : Int) := dt_; have q1243 : t1241 < (y1238.length : Int) := dt_; obtain ⟨ad1243, e1243, hx1243_0⟩ := Kd.at_int (Kd.R_reads' HO1240.out).2.2 t1241 p1243 q1243; cases e1243; replace p1243 := eq_true p1243; replace q1243 := eq_true q1243; have p25 : 0 ≤ (t1236 : Int) := dt_; have q25 : (t1236 : Int) < ((y1233.length : Int) : Int) := dt_; obtain ⟨go25, co25, eo25, gb25, gl25, cl25, HG25⟩ := Kd.R_form HO1235.out (by omega); (first | cases eo25 | (injection eo25 with ea_ en_ ec_; (first | subst ea_ | (injection ea_ with ea_; subst ea_)); subst ec_; clear en_)); have GB25 := Aside0.mk gb25; have GG25 := Aside0.mk HG25; clear gb25 gl25 HG25; obtain ⟨ce25, hcl25, hM25, hcc25, hfr25⟩ := Kd.R_elem HO1235.out z65 (t1236 : Int) p25 q25; obtain rfl := k65_openM hM25; have hx25_0 : w36.cell? ⟨go25, (t1236 : Int).toNat * 2, none⟩ = some (.int .i64 ((rd_T65 y1233 t1236).f0)) := hcc25 0 _ rfl; have hx25_1 : w36.cell? ⟨go25, (t1236 : Int).toNat * 2 + 1, none⟩ = some (.string ((rd_T65 y1233 t1236).f1)) := hcc25 1 _ rfl; have hf25_0 : w36.frozen? ⟨go25, (t1236 : Int).toNat * 2, none⟩ = false := hfr25 0; have hf25_1 : w36.frozen? ⟨go25, (t1236 : Int).toNat * 2 + 1, none⟩ = false := hfr25 1; clear hcl25 hcc25 hfr25 hM25; replace p25 := eq_true p25; replace q25 := eq_true q25; have HX38 := Aside0.mk (show Kd.R k65 65 w36 w.heap.size (fun k_ => (w.heap.size ≤ k_)) (.slice (some ⟨go25, 0, none⟩) y1233.length co32) y1233 from (kR_ HO1235.out)); obtain ⟨ce38, hcl38, hM38, hcc38, hfr38⟩ := Kd.R_elem HX38.out z65 (t1236 : Int) (dt_) (by have h_ : (t1236 : Int) < ((y1233.length : Int) : Int) := dt_; first | exact h_ | (have e_ := (Kd.R_reads' HO1235.out).1; omega) | simpa using h_); obtain rfl := k65_openM hM38; have HP38 := Kd.R_seg HX38.out (t1236 : Int) (dt_) (by have h_ : (t1236 : Int) < ((y1233.length : Int) : Int) := dt_; first | exact h_ | (have e_ := (Kd.R_reads' HO1235.out).1; omega) | simpa using h_) (seg := [.int .i64 (rd y1238 t1241)]) (j := 0) hcl38 hcc38 (show 1 ≤ 2 from by decide) (x' := (⟨rd y1238 t1241, (rd_T65 y1233 t1236).f1⟩ : S65)) (k65_mkM _ _ _ (⟨rd y1238 t1241, (rd_T65 y1233 t1236).f1⟩ : S65) ) (fun _ hk => hk); have hx38_0 := hcc38 0 _ rfl; (try simp only [show (k65).sz = 2 from rfl, Nat.mul_one, Nat.add_zero] at hx38_0); have hf38_0 := hfr38 0; (try simp only [show (k65).sz = 2 from rfl, Nat.mul_one, Nat.add_zero] at hf38_0); clear hcl38 hcc38 hfr38 hM38) | ((with_reducible refine gate_store (t := 3) (p := 60) rfl ?_); refine store_event (t := 3) (p := 60) (v := ?vo_w39) (w1 := (w36.setCell ⟨go25, (t1236 : Int).toNat * 2, none⟩ (.int .i64 (rd y1238 t1241)))) ?hg ?ho ?hn ?hr ?_; (case ho => rfl); (case hg => rfl); (case hn => rfl); (case hr => first | (go_simp; done) | (go_simp; rfl)); intro w39 hw; have hg : w36.grownBy w39 (some go25) := (by rw [hw]; exact HP38.2); have hp_ : Kd.R k65 65 w39 w.heap.size (fun k_ => (w.heap.size ≤ k_)) (.slice (some ⟨go25, 0, none⟩) y1233.length co32) y1244 := (by rw [hw, Ny1244.out]; exact HP38.1); clear HP38; have n0_ := Aside0.mk (Kd.V_afterv (v := (.slice (some ⟨go25, 0, none⟩) y1233.length co32)) (v1 := (.slice (some ⟨go25, 0, none⟩) y1233.length co32)) (ok := (fun k_ => (w.heap.size ≤ k_) ∧ some k_ ≠ (.slice (some ad1243) y1238.length co37 : Value).ownBlock ∧ k_ ≠ g)) (by refine kV_ ?_; exact Kd.V_mono HO_6.out (fun _ hk => ⟨⟨hk.1.1.1, ⟨hk.2, hk.1.1.2⟩⟩, hk.1.2⟩)) hg (.inl rfl)); have n1_ := Aside0.mk (IsS91.grown (by repeat (first | (with_reducible first | exact HI0.out | apply IsS91.alloc | apply IsS91.drewN | apply IsS91.drew | apply IsS91.set_1) | exact HI0.out)) hg (IsS91.own_ne HI0.out HO1235.out (by decide))); have n2_ := Aside0.mk (hp_); have n3_ := Aside0.mk (Kd.R_over' (v := (.slice (some ⟨go25, 0, none⟩) y1233.length co32)) (kR_ HO1240.out) (Kd.R_typed HO1235.out) (by decide) hg); have n4_ := Aside0.mk ((by rw [hw]; exact below_set (HB.out) (Nat.le_trans HL.out GB25.out) : Below w0.heap.size w0 w39)); have n5_ := Aside0.mk (KeepBut.trans hK0_ (KeepBut.of_grown hg g) (Kd.R_base2 HO1235.out)); clear HO_6; clear HI0; clear HO1235; clear HO1240; clear HB; clear HK; have HO_6 := n0_; have HI0 := n1_; have HO1235 := n2_; have HO1240 := n3_; have HB := n4_; have HK := n5_; clear n0_ n1_ n2_ n3_ n4_ n5_; clear hg hw hp_))
      go_ret2
      exact ⟨_, er_, Kd.R_V (kR_ HO1235.out), by repeat (first | (with_reducible first | exact HI0.out | apply IsS91.alloc | apply IsS91.drewN | apply IsS91.drew | apply IsS91.set_1) | exact HI0.out), hs_ (IsS91.ge HI0.out), by repeat (first | (with_reducible first | exact HK.out | apply KeepBut.set_ | apply keep_drewN | apply keep_drew | apply keep_alloc) | exact HK.out)⟩
     ·rw [if_neg c17] at H
      have c17b0 : (t1228 == 0) = false := beq_eq_false_iff_ne.mpr c17
      have c17b1 : (t1228 != 0) = true := bne_iff_ne.mpr c17
      by_cases c40 : t1228 = 1
      ·rw [if_pos c40] at H
       have c40b0 : (t1228 == 1) = true := beq_iff_eq.mpr c40
       have c40b1 : (t1228 != 1) = false := bne_eq_false_iff_eq.mpr c40
       clear c40
       obtain ⟨y1245, hy1245⟩ : ∃ y_ : List (S65), y_ = (([] : List (S65))) := ⟨_, rfl⟩
       replace H : (if y1245.length + x6_1.length < 5864062014805 then ((some (y1245 ++ x6_1 : List (S65))).bind fun y1248 => (if 0 < (x6_1.length : Int) then ((some (([(⟨(rd_T65 x6_1 0).f0, (rd_T65 x6_1 0).f1⟩ : S65)] : List (S65)) : List (S65))).bind fun y1252 => (if y1248.length + y1252.length < 5864062014805 then (some ((y1248 ++ y1252), x7_1, t1229)) else (none))) else (none))) else (none)) = some (r1, r2, r3) := hq_ hy1245 H
       have Ny1245 := Aside0.mk hy1245
       clear hy1245
       by_cases c41 : y1245.length + x6_1.length < 5864062014805; rotate_left
       ·rw [if_neg c41] at H; exact absurd H (by simp)
       rw [if_pos c41] at H
       have LMc41 := Aside0.mk c41
       clear c41
       obtain ⟨y1248, hy1248⟩ : ∃ y_ : List (S65), y_ = (y1245 ++ x6_1) := ⟨_, rfl⟩
       replace H : (if 0 < (x6_1.length : Int) then ((some (([(⟨(rd_T65 x6_1 0).f0, (rd_T65 x6_1 0).f1⟩ : S65)] : List (S65)) : List (S65))).bind fun y1252 => (if y1248.length + y1252.length < 5864062014805 then (some ((y1248 ++ y1252), x7_1, t1229)) else (none))) else (none)) = some (r1, r2, r3) := hq_ hy1248 H
       have Ny1248 := Aside0.mk hy1248
       clear hy1248
       by_cases c42 : 0 < (x6_1.length : Int); rotate_left
       ·rw [if_neg c42] at H; exact absurd H (by simp)
       rw [if_pos c42] at H
       have c42b0 : decide (0 < (x6_1.length : Int)) = true := decide_eq_true c42
       have c42b1 : decide (0 < x6_1.length) = true := decide_eq_true (by omega)
       clear c42
       obtain ⟨y1252, hy1252⟩ : ∃ y_ : List (S65), y_ = (([(⟨(rd_T65 x6_1 0).f0, (rd_T65 x6_1 0).f1⟩ : S65)] : List (S65))) := ⟨_, rfl⟩
       replace H : (if y1248.length + y1252.length < 5864062014805 then (some ((y1248 ++ y1252), x7_1, t1229)) else (none)) = some (r1, r2, r3) := hq_ hy1252 H
       have Ny1252 := Aside0.mk hy1252
       clear hy1252
       by_cases c43 : y1248.length + y1252.length < 5864062014805; rotate_left
       ·rw [if_neg c43] at H; exact absurd H (by simp)
       rw [if_pos c43] at H
       have LMc43 := Aside0.mk c43
       clear c43
       obtain ⟨y1255, hy1255⟩ : ∃ y_ : List (S65), y_ = (y1248 ++ y1252) := ⟨_, rfl⟩
       replace H : (some (y1255, x7_1, t1229)) = some (r1, r2, r3) := hq_ hy1255 H
       have Ny1255 := Aside0.mk hy1255
       clear hy1255
       simp only [Option.some.injEq, Prod.mk.injEq] at H
       obtain ⟨rfl, rfl, rfl⟩ := H
       try go_wp2_with (first | ((with_reducible refine gate_callee (f := 74) rfl ?_); refine gl_ (some 32) Try.func74 #[.pointer (some ⟨g, 0, none⟩), .int .i64 a1] ?_; (with_reducible refine (spec_l20Rd_odd.calls k1 g s0_0 x1001_1 a1 true t1227 w0 _ ?side1 ?side2 A14.out).mono ?_); (case side1 => repeat (first | (with_reducible first | exact HI0.out | apply IsS91.alloc | apply IsS91.drewN | apply IsS91.drew | apply IsS91.set_1) | exact HI0.out)); (case side2 => exact hs_ (IsS91.ge HI0.out)); rintro e w44 ⟨rfl, hi, hb, hk⟩; refine ⟨_, rfl, ?_⟩; have n0_ := Aside0.mk (Kd.V_mono (Kd.V_keep (Kd.V_mono (ok := fun k_ => (((w.heap.size ≤ k_)) ∧ k_ ≠ g)) (kV_ HO_6.out) (fun k_ hk_ => (⟨hk_, hk_.2⟩ : _ ∧ k_ ≠ g))) hk (fun _ h => h.2)) (fun _ h => h.1)); have n1_ := Aside0.mk (KeepBut.trans hK0_ hk (.inl rfl)); have n2_ := Aside0.mk (hb); have n3_ := Aside0.mk (hi); clear HO_6; clear HK; clear HB; clear HI0; have HO_6 := n0_; have HK := n1_; have HB := n2_; have HI0 := n3_; clear n0_ n1_ n2_ n3_; (try clear hb); (try clear hk); (try clear hi)) | ((with_reducible refine gate_callee (f := 70) rfl ?_); refine gl_ (some 34) Try.func70 #[.pointer (some ⟨g, 0, none⟩), .int .i64 3] ?_; (with_reducible refine (spec_l20Rd_pick.calls k1 g s0_0 t1227 3 t1228 t1229 w0 _ ?side1 ?side2 A16.out).mono ?_); (case side1 => repeat (first | (with_reducible first | exact HI0.out | apply IsS91.alloc | apply IsS91.drewN | apply IsS91.drew | apply IsS91.set_1) | exact HI0.out)); (case side2 => exact hs_ (IsS91.ge HI0.out)); rintro e w45 ⟨rfl, hi, hb, hk⟩; refine ⟨_, rfl, ?_⟩; have n0_ := Aside0.mk (Kd.V_mono (Kd.V_keep (Kd.V_mono (ok := fun k_ => (((w.heap.size ≤ k_)) ∧ k_ ≠ g)) (kV_ HO_6.out) (fun k_ hk_ => (⟨hk_, hk_.2⟩ : _ ∧ k_ ≠ g))) hk (fun _ h => h.2)) (fun _ h => h.1)); have n1_ := Aside0.mk (KeepBut.trans hK0_ hk (.inl rfl)); have n2_ := Aside0.mk (hb); have n3_ := Aside0.mk (hi); clear HO_6; clear HK; clear HB; clear HI0; have HO_6 := n0_; have HK := n1_; have HB := n2_; have HI0 := n3_; clear n0_ n1_ n2_ n3_; (try clear hb); (try clear hk); (try clear hi); obtain ⟨Ao46, co46, eo46⟩ := Kd.V_slice HO_6.out; subst eo46))
       replace HO_6 := Aside0.mk (Kd.V_drew HO_6.out)
       replace HI0 := Aside0.mk (IsS91.drew HI0.out)
       replace HK := Aside0.mk (keep_drew HK.out)
       replace HB := Aside0.mk (below_drew1 HB.out)
       have p1251 : 0 ≤ (0 : Int) := (by omega)
       have q1251 : 0 < (x6_1.length : Int) := dt_
       obtain ⟨ad1251, e1251, hx1251_0, hx1251_1⟩ := at_T65 (Kd.V_reads' HO_6.out).2.2 0 p1251 q1251
       cases e1251
       have qi1251 : (0 < x6_1.length) = True := eq_true (by omega)
       (try rw [show ((0 : Int)).toNat = 0 from rfl] at hx1251_0)
       (try rw [show 0 * 2 = 0 from rfl] at hx1251_0)
       (try rw [Addr.add_zero'] at hx1251_0)
       (try rw [show ((0 : Int)).toNat = 0 from rfl] at hx1251_1)
       (try rw [show 0 * 2 = 0 from rfl] at hx1251_1)
       (try rw [Addr.add_zero'] at hx1251_1)
       replace p1251 := eq_true p1251
       replace q1251 := eq_true q1251
       refine start_ (n := 9) (S := fun w' => w'.cell? ad1251 = some (.int .i64 ((rd_T65 x6_1 0).f0)) ∧ w'.cell? ⟨ad1251.block, ad1251.off + 1, none⟩ = some (.string ((rd_T65 x6_1 0).f1))) (ds := []) (tf_ 0 9) (by kernel_rfl) rfl rfl ⟨hx1251_0, hx1251_1⟩ (fun hHeld => ?_); refine with_tabW spec_l20Store.tab14 spec_l20Store.bits14 (fun HT_ HW_ => ?_)
       generalize w45.drew = w47 at HO_6 HI0 HK HB hx1251_0 hx1251_1 hHeld ⊢
       refine pa_ (i := 1) (N := some 64) (tb_ 9 2) ?_
       refine pa_ (i := 3) (N := some 66) (tb_ 9 10) ?_
       refine pa_ (i := 4) (N := some 67) (tb_ 9 26) ?_
       refine ta2_ (i := 5) (N := some 68) (tb_ 9 58) ?_
       refine join_ (σ := Value × Value × Value) 2 (tf_ 7 2) (fun s_ => [(63, s_.1), (65, s_.2.1), (69, s_.2.2)]) (fun s_ w' => (w'.cell? ad1251 = some (.int .i64 ((rd_T65 x6_1 0).f0)) ∧ w'.cell? ⟨ad1251.block, ad1251.off + 1, none⟩ = some (.string ((rd_T65 x6_1 0).f1))) ∧ (Kd.R k65 65 w' w.heap.size (fun k_ => (w.heap.size ≤ k_) ∧ some k_ ≠ (s_.2.2 : Value).ownBlock) s_.2.1 y1248) ∧ (Kd.R k65 65 w' w.heap.size (fun k_ => (w.heap.size ≤ k_) ∧ some k_ ≠ (s_.2.1 : Value).ownBlock) s_.2.2 y1252) ∧ (Kd.V k65 65 w' w.heap.size (fun k_ => (w.heap.size ≤ k_) ∧ some k_ ≠ (s_.2.1 : Value).ownBlock ∧ some k_ ≠ (s_.2.2 : Value).ownBlock ∧ k_ ≠ g) (.slice (some ad1251) x6_1.length co46) x6_1) ∧ (IsS91 w0 w' g s0_0 t1229) ∧ (KeepBut w w' g none) ∧ (Below w0.heap.size w0 w')) ?_ ?_
       rotate_left
       ·intro hCont
        refine two_ (i := 0) (j := 6) (Ni := some 63) (Nj := some 69) (tb_ 9 59) (tb_ 9 122) rfl rfl rfl rfl (two_of HT_.out (by kernel_rfl)) (by decide) (by decide) (fun K hK => ?_) (fun K hK => ?_)
        ·skip
         refine Kd.R_lit_step k65 _ 65 ?hg (N := 63) ?hd (xs := ([] : List (S65))) (inner := []) (ok := fun _ => True) (okp := fun _ => True) ?hr ?hp (fun _ hk => hk) trivial (Below.refl _ _) (Nat.le_refl _) (by simp) ?_; (case hd => rfl); (case hg => rfl); (case hr => first | (go_simp; done) | (go_simp; rfl)); (case hp => exact (Reps.none _ _))
         intro v1246 w48 ho49 hb hg_ hnew_
         have HS0_ := (hb.cell (World.block_lt_of_cell? _ _ (hHeld.1))).trans (hHeld.1)
         have HS1_ := (hb.cell (World.block_lt_of_cell? _ _ (hHeld.2))).trans (hHeld.2)
         clear hg_ hnew_
         (first | rw [← Ny1245.out] at ho49 | (simp only [Int.reduceToNat] at ho49; rw [← Ny1245.out] at ho49))
         replace HO_6 := Aside0.mk (Kd.V_elder' (kV_ HO_6.out) (Kd.R_base ho49) hb)
         have HO1247 := Aside0.mk (Kd.R_lower (Kd.R_newM (M := fun k_ => (w.heap.size ≤ k_)) ho49 (keep_size (w := w) (g := g) (row := none) hK0_) (fun k_ h_ => h_)) (keep_size (w := w) (g := g) (row := none) hK0_))
         replace HK := Aside0.mk (KeepBut.trans hK0_ (KeepBut.of_below hb g none) (.inl rfl))
         replace HB := Aside0.mk (below_step (hs_ (IsS91.ge HI0.out)) hb)
         replace HI0 := Aside0.mk (IsS91.below (by repeat (first | (with_reducible first | exact HI0.out | apply IsS91.alloc | apply IsS91.drewN | apply IsS91.drew | apply IsS91.set_1) | exact HI0.out)) hb)
         clear hb ho49
         refine hK.out _ _ ⟨HS0_, HS1_⟩ (fun hHeld => ?_)
         clear hK K
         refine norm_ (a' := ?_) ?_ ?_
         rotate_left
         ·show Act.put _ (some 63) _ = _
          simp only [Act.put, List.setIfInBounds_toArray, List.set_cons_zero, List.set_cons_succ, i64_w, i32_w]
          rfl
         refine two_ (i := 2) (j := 6) (Ni := some 65) (Nj := some 69) (tf_ 6 3) (tb_ 9 123) rfl rfl rfl rfl (two_of HT_.out (by kernel_rfl)) (by decide) (by decide) (fun K hK => ?_) (fun K hK => ?_)
         ·skip
          refine Kd.R_append_rows_step k65 w.heap.size (by rfl) (.tmp 63) (.tmp 64) 51 65 (.agg #[(.int .i64 0), (.string ⟨#[]⟩)]) 24 rfl Try.underlying51 info65 rfl (by decide) (by omega) v1246 y1245 x6_1 _ _ _ (fun k_ => (w.heap.size ≤ k_)) (fun _ => False) rfl rfl ?aO ?aR (fun _ _ h => h) (fun _ h => h.elim) ?aF (Below.refl _ _) ?aS ?aL ?_
          (case aR => repeat (first | exact (Kd.V_reads' HO_6.out).2.2 | (with_reducible refine Kd.C_alloc ?_ _) | (with_reducible refine Kd.C_drewN ?_ _) | (with_reducible refine Kd.C_drew ?_)))
          (case aF => exact (fun k_ hk => (Nat.le_trans (keep_size (w := w) (g := g) (row := none) hK0_) hk)))
          (case aO => exact (by refine kR_ ?_; exact Kd.R_mono HO1247.out (fun _ hk => hk.1)))
          (case aS => exact (keep_size (w := w) (g := g) (row := none) hK0_))
          (case aL => have := LMc41.out; omega)
          intro v1249 w50 ho hb hg hat
          rw [← Ny1248.out] at ho
          have n0_ := Aside0.mk (Kd.V_afterv (ok := (fun k_ => (w.heap.size ≤ k_) ∧ k_ ≠ g)) (kV_ HO_6.out) hg hat)
          have n1_ := Aside0.mk (IsS91.grown (by repeat (first | (with_reducible first | exact HI0.out | apply IsS91.alloc | apply IsS91.drewN | apply IsS91.drew | apply IsS91.set_1) | exact HI0.out)) hg (IsS91.own_ne HI0.out HO1247.out (by decide)))
          have n2_ := Aside0.mk (below_weaken (hs_ (IsS91.ge HI0.out)) HL.out hb)
          have n3_ := Aside0.mk (KeepBut.trans hK0_ (KeepBut.of_grown hg g) (Kd.R_base2 HO1247.out))
          have n4_ := Aside0.mk (ho)
          clear HO_6
          clear HI0
          clear HB
          clear HK
          clear HO1247
          have HO_6 := n0_
          have HI0 := n1_
          have HB := n2_
          have HK := n3_
          have HO1250 := n4_
          clear n0_ n1_ n2_ n3_ n4_
          clear ho hb hg hat
          obtain ⟨adz0_, ez0_, HZ0_0_, HZ0_1_⟩ := at_T65 (Kd.V_reads' HO_6.out).2.2 0 (by first | exact p1251 | exact of_eq_true p1251) (by first | exact q1251 | exact of_eq_true q1251)
          cases ez0_
          refine hK.out _ _ ⟨HZ0_0_, HZ0_1_⟩ (fun hHeld => ?_)
          clear hK K
          refine norm_ (a' := ?_) ?_ ?_
          rotate_left
          ·show Act.put _ (some 65) _ = _
           simp only [Act.put, List.setIfInBounds_toArray, List.set_cons_zero, List.set_cons_succ, i64_w, i32_w]
           rfl
          refine one_ (i := 6) (N := some 69) (tf_ 7 2) rfl rfl (one_of HT_.out (by kernel_rfl)) (by decide) (fun K hK => ?_)
          refine Kd.R_lit_step k65 _ 65 ?hg (N := 69) ?hd (xs := ([(⟨(rd_T65 x6_1 0).f0, (rd_T65 x6_1 0).f1⟩ : S65)] : List (S65))) (inner := [.int .i64 ((rd_T65 x6_1 0).f0), .string ((rd_T65 x6_1 0).f1)]) (ok := fun _ => True) (okp := fun _ => True) ?hr ?hp (fun _ hk => hk) trivial (Below.refl _ _) (Nat.le_refl _) (by simp) ?_; (case hd => rfl); (case hg => rfl); (case hr => first | (go_simp; done) | (go_simp; rfl)); (case hp => exact (Reps.c2 (show Kd.M k65 _ _ _ (⟨(rd_T65 x6_1 0).f0, (rd_T65 x6_1 0).f1⟩ : S65) [.int .i64 ((rd_T65 x6_1 0).f0), .string ((rd_T65 x6_1 0).f1)] from (k65_mkM _ _ _ (⟨(rd_T65 x6_1 0).f0, (rd_T65 x6_1 0).f1⟩ : S65) )) (Reps.none _ _)))
          intro v1253 w51 ho52 hb hg_ hnew_
          have HS0_ := (hb.cell (World.block_lt_of_cell? _ _ (hHeld.1))).trans (hHeld.1)
          have HS1_ := (hb.cell (World.block_lt_of_cell? _ _ (hHeld.2))).trans (hHeld.2)
          clear hg_ hnew_
          (first | rw [← Ny1252.out] at ho52 | (simp only [Int.reduceToNat] at ho52; rw [← Ny1252.out] at ho52))
          replace HO_6 := Aside0.mk (Kd.V_elder' (kV_ HO_6.out) (Kd.R_base ho52) hb)
          have HO1254 := Aside0.mk (Kd.R_lower (Kd.R_new' (Kd.R_newM (M := fun k_ => (w.heap.size ≤ k_)) ho52 (keep_size (w := w) (g := g) (row := none) hK0_) (fun k_ h_ => h_)) (Kd.R_lt (kR_ HO1250.out))) (keep_size (w := w) (g := g) (row := none) hK0_))
          replace HO1250 := Aside0.mk (Kd.R_elder' (kR_ HO1250.out) (Kd.R_base ho52) hb)
          replace HK := Aside0.mk (KeepBut.trans hK0_ (KeepBut.of_below hb g none) (.inl rfl))
          replace HB := Aside0.mk (below_step (hs_ (IsS91.ge HI0.out)) hb)
          replace HI0 := Aside0.mk (IsS91.below (by repeat (first | (with_reducible first | exact HI0.out | apply IsS91.alloc | apply IsS91.drewN | apply IsS91.drew | apply IsS91.set_1) | exact HI0.out)) hb)
          clear hb ho52
          refine hK.out _ _ ⟨HS0_, HS1_⟩ (fun hHeld => ?_)
          clear hK K
          refine norm_ (a' := ?_) ?_ ?_
          rotate_left
          ·show Act.put _ (some 69) _ = _
           simp only [Act.put, List.setIfInBounds_toArray, List.set_cons_zero, List.set_cons_succ, i64_w, i32_w]
           rfl
          exact norm_ (by simp only [putAll, Act.put, List.setIfInBounds_toArray, List.set_cons_zero, List.set_cons_succ]) (hCont (v1246, v1249, v1253) _ ⟨hHeld, (kR_ HO1250.out), (by refine kR_ ?_; exact Kd.R_mono HO1254.out (fun _ hk => ⟨hk.1.1, hk.2⟩)), (by refine kV_ ?_; exact Kd.V_mono HO_6.out (fun _ hk => ⟨hk.1.1.1, ⟨hk.1.2, ⟨hk.2, hk.1.1.2⟩⟩⟩)), (by repeat (first | (with_reducible first | exact HI0.out | apply IsS91.alloc | apply IsS91.drewN | apply IsS91.drew | apply IsS91.set_1) | exact HI0.out)), hK0_, (hs_ (IsS91.ge HI0.out))⟩)
         ·skip
          refine Kd.R_lit_step k65 _ 65 ?hg (N := 69) ?hd (xs := ([(⟨(rd_T65 x6_1 0).f0, (rd_T65 x6_1 0).f1⟩ : S65)] : List (S65))) (inner := [.int .i64 ((rd_T65 x6_1 0).f0), .string ((rd_T65 x6_1 0).f1)]) (ok := fun _ => True) (okp := fun _ => True) ?hr ?hp (fun _ hk => hk) trivial (Below.refl _ _) (Nat.le_refl _) (by simp) ?_; (case hd => rfl); (case hg => rfl); (case hr => first | (go_simp; done) | (go_simp; rfl)); (case hp => exact (Reps.c2 (show Kd.M k65 _ _ _ (⟨(rd_T65 x6_1 0).f0, (rd_T65 x6_1 0).f1⟩ : S65) [.int .i64 ((rd_T65 x6_1 0).f0), .string ((rd_T65 x6_1 0).f1)] from (k65_mkM _ _ _ (⟨(rd_T65 x6_1 0).f0, (rd_T65 x6_1 0).f1⟩ : S65) )) (Reps.none _ _)))
          intro v1253 w50 ho51 hb hg_ hnew_
          have HS0_ := (hb.cell (World.block_lt_of_cell? _ _ (hHeld.1))).trans (hHeld.1)
          have HS1_ := (hb.cell (World.block_lt_of_cell? _ _ (hHeld.2))).trans (hHeld.2)
          clear hg_ hnew_
          (first | rw [← Ny1252.out] at ho51 | (simp only [Int.reduceToNat] at ho51; rw [← Ny1252.out] at ho51))
          replace HO_6 := Aside0.mk (Kd.V_elder' (kV_ HO_6.out) (Kd.R_base ho51) hb)
          have HO1254 := Aside0.mk (Kd.R_lower (Kd.R_new' (Kd.R_newM (M := fun k_ => (w.heap.size ≤ k_)) ho51 (keep_size (w := w) (g := g) (row := none) hK0_) (fun k_ h_ => h_)) (Kd.R_lt (kR_ HO1247.out))) (keep_size (w := w) (g := g) (row := none) hK0_))
          replace HO1247 := Aside0.mk (Kd.R_elder' (kR_ HO1247.out) (Kd.R_base ho51) hb)
          replace HK := Aside0.mk (KeepBut.trans hK0_ (KeepBut.of_below hb g none) (.inl rfl))
          replace HB := Aside0.mk (below_step (hs_ (IsS91.ge HI0.out)) hb)
          replace HI0 := Aside0.mk (IsS91.below (by repeat (first | (with_reducible first | exact HI0.out | apply IsS91.alloc | apply IsS91.drewN | apply IsS91.drew | apply IsS91.set_1) | exact HI0.out)) hb)
          clear hb ho51
          refine hK.out _ _ ⟨HS0_, HS1_⟩ (fun hHeld => ?_)
          clear hK K
          refine norm_ (a' := ?_) ?_ ?_
          rotate_left
          ·show Act.put _ (some 69) _ = _
           simp only [Act.put, List.setIfInBounds_toArray, List.set_cons_zero, List.set_cons_succ, i64_w, i32_w]
           rfl
          refine one_ (i := 2) (N := some 65) (tf_ 7 2) rfl rfl (one_of HT_.out (by kernel_rfl)) (by decide) (fun K hK => ?_)
          refine Kd.R_append_rows_step k65 w.heap.size (by rfl) (.tmp 63) (.tmp 64) 51 65 (.agg #[(.int .i64 0), (.string ⟨#[]⟩)]) 24 rfl Try.underlying51 info65 rfl (by decide) (by omega) v1246 y1245 x6_1 _ _ _ (fun k_ => (w.heap.size ≤ k_) ∧ some k_ ≠ (v1253 : Value).ownBlock) (fun _ => False) rfl rfl ?aO ?aR (fun _ _ h => h) (fun _ h => h.elim) ?aF (Below.refl _ _) ?aS ?aL ?_
          (case aR => repeat (first | exact (Kd.V_reads' HO_6.out).2.2 | (with_reducible refine Kd.C_alloc ?_ _) | (with_reducible refine Kd.C_drewN ?_ _) | (with_reducible refine Kd.C_drew ?_)))
          (case aF => exact (fun k_ hk => ⟨(Nat.le_trans (keep_size (w := w) (g := g) (row := none) hK0_) hk), Kd.fresh' (Kd.R_lt (kR_ HO1254.out)) k_ hk⟩))
          (case aO => exact (by refine kR_ ?_; exact Kd.R_mono HO1247.out (fun _ hk => ⟨hk.1.1, hk.2⟩)))
          (case aS => exact (keep_size (w := w) (g := g) (row := none) hK0_))
          (case aL => have := LMc41.out; omega)
          intro v1249 w52 ho hb hg hat
          rw [← Ny1248.out] at ho
          have n0_ := Aside0.mk (Kd.V_afterv (ok := (fun k_ => (w.heap.size ≤ k_) ∧ some k_ ≠ (v1253 : Value).ownBlock ∧ k_ ≠ g)) (by refine kV_ ?_; exact Kd.V_mono HO_6.out (fun _ hk => ⟨⟨hk.1.1.1, ⟨hk.2, hk.1.1.2⟩⟩, hk.1.2⟩)) hg hat)
          have n1_ := Aside0.mk (IsS91.grown (by repeat (first | (with_reducible first | exact HI0.out | apply IsS91.alloc | apply IsS91.drewN | apply IsS91.drew | apply IsS91.set_1) | exact HI0.out)) hg (IsS91.own_ne HI0.out HO1247.out (by decide)))
          have n2_ := Aside0.mk (Kd.R_after (ok := (fun k_ => (w.heap.size ≤ k_))) (by refine kR_ ?_; exact Kd.R_mono HO1254.out (fun _ hk => ⟨hk.1.1, hk.2⟩)) hg hat)
          have n3_ := Aside0.mk (below_weaken (hs_ (IsS91.ge HI0.out)) HL.out hb)
          have n4_ := Aside0.mk (KeepBut.trans hK0_ (KeepBut.of_grown hg g) (Kd.R_base2 HO1247.out))
          have n5_ := Aside0.mk (ho)
          clear HO_6
          clear HI0
          clear HO1254
          clear HB
          clear HK
          clear HO1247
          have HO_6 := n0_
          have HI0 := n1_
          have HO1254 := n2_
          have HB := n3_
          have HK := n4_
          have HO1250 := n5_
          clear n0_ n1_ n2_ n3_ n4_ n5_
          clear ho hb hg hat
          obtain ⟨adz0_, ez0_, HZ0_0_, HZ0_1_⟩ := at_T65 (Kd.V_reads' HO_6.out).2.2 0 (by first | exact p1251 | exact of_eq_true p1251) (by first | exact q1251 | exact of_eq_true q1251)
          cases ez0_
          refine hK.out _ _ ⟨HZ0_0_, HZ0_1_⟩ (fun hHeld => ?_)
          clear hK K
          refine norm_ (a' := ?_) ?_ ?_
          rotate_left
          ·show Act.put _ (some 65) _ = _
           simp only [Act.put, List.setIfInBounds_toArray, List.set_cons_zero, List.set_cons_succ, i64_w, i32_w]
           rfl
          exact norm_ (by simp only [putAll, Act.put, List.setIfInBounds_toArray, List.set_cons_zero, List.set_cons_succ]) (hCont (v1246, v1249, v1253) _ ⟨hHeld, (kR_ HO1250.out), (kR_ HO1254.out), (by refine kV_ ?_; exact Kd.V_mono HO_6.out (fun _ hk => ⟨hk.1.1, ⟨hk.2, ⟨hk.1.2.1, hk.1.2.2⟩⟩⟩)), (by repeat (first | (with_reducible first | exact HI0.out | apply IsS91.alloc | apply IsS91.drewN | apply IsS91.drew | apply IsS91.set_1) | exact HI0.out)), hK0_, (hs_ (IsS91.ge HI0.out))⟩)
        ·skip
         refine Kd.R_lit_step k65 _ 65 ?hg (N := 69) ?hd (xs := ([(⟨(rd_T65 x6_1 0).f0, (rd_T65 x6_1 0).f1⟩ : S65)] : List (S65))) (inner := [.int .i64 ((rd_T65 x6_1 0).f0), .string ((rd_T65 x6_1 0).f1)]) (ok := fun _ => True) (okp := fun _ => True) ?hr ?hp (fun _ hk => hk) trivial (Below.refl _ _) (Nat.le_refl _) (by simp) ?_; (case hd => rfl); (case hg => rfl); (case hr => first | (go_simp; done) | (go_simp; rfl)); (case hp => exact (Reps.c2 (show Kd.M k65 _ _ _ (⟨(rd_T65 x6_1 0).f0, (rd_T65 x6_1 0).f1⟩ : S65) [.int .i64 ((rd_T65 x6_1 0).f0), .string ((rd_T65 x6_1 0).f1)] from (k65_mkM _ _ _ (⟨(rd_T65 x6_1 0).f0, (rd_T65 x6_1 0).f1⟩ : S65) )) (Reps.none _ _)))
         intro v1253 w48 ho49 hb hg_ hnew_
         have HS0_ := (hb.cell (World.block_lt_of_cell? _ _ (hHeld.1))).trans (hHeld.1)
         have HS1_ := (hb.cell (World.block_lt_of_cell? _ _ (hHeld.2))).trans (hHeld.2)
         clear hg_ hnew_
         (first | rw [← Ny1252.out] at ho49 | (simp only [Int.reduceToNat] at ho49; rw [← Ny1252.out] at ho49))
         replace HO_6 := Aside0.mk (Kd.V_elder' (kV_ HO_6.out) (Kd.R_base ho49) hb)
         have HO1254 := Aside0.mk (Kd.R_lower (Kd.R_newM (M := fun k_ => (w.heap.size ≤ k_)) ho49 (keep_size (w := w) (g := g) (row := none) hK0_) (fun k_ h_ => h_)) (keep_size (w := w) (g := g) (row := none) hK0_))
         replace HK := Aside0.mk (KeepBut.trans hK0_ (KeepBut.of_below hb g none) (.inl rfl))
         replace HB := Aside0.mk (below_step (hs_ (IsS91.ge HI0.out)) hb)
         replace HI0 := Aside0.mk (IsS91.below (by repeat (first | (with_reducible first | exact HI0.out | apply IsS91.alloc | apply IsS91.drewN | apply IsS91.drew | apply IsS91.set_1) | exact HI0.out)) hb)
         clear hb ho49
         refine hK.out _ _ ⟨HS0_, HS1_⟩ (fun hHeld => ?_)
         clear hK K
         refine norm_ (a' := ?_) ?_ ?_
         rotate_left
         ·show Act.put _ (some 69) _ = _
          simp only [Act.put, List.setIfInBounds_toArray, List.set_cons_zero, List.set_cons_succ, i64_w, i32_w]
          rfl
         refine one_ (i := 0) (N := some 63) (tb_ 9 123) rfl rfl (one_of HT_.out (by kernel_rfl)) (by decide) (fun K hK => ?_)
         refine Kd.R_lit_step k65 _ 65 ?hg (N := 63) ?hd (xs := ([] : List (S65))) (inner := []) (ok := fun _ => True) (okp := fun _ => True) ?hr ?hp (fun _ hk => hk) trivial (Below.refl _ _) (Nat.le_refl _) (by simp) ?_; (case hd => rfl); (case hg => rfl); (case hr => first | (go_simp; done) | (go_simp; rfl)); (case hp => exact (Reps.none _ _))
         intro v1246 w50 ho51 hb hg_ hnew_
         have HS0_ := (hb.cell (World.block_lt_of_cell? _ _ (hHeld.1))).trans (hHeld.1)
         have HS1_ := (hb.cell (World.block_lt_of_cell? _ _ (hHeld.2))).trans (hHeld.2)
         clear hg_ hnew_
         (first | rw [← Ny1245.out] at ho51 | (simp only [Int.reduceToNat] at ho51; rw [← Ny1245.out] at ho51))
         replace HO_6 := Aside0.mk (Kd.V_elder' (kV_ HO_6.out) (Kd.R_base ho51) hb)
         have HO1247 := Aside0.mk (Kd.R_lower (Kd.R_new' (Kd.R_newM (M := fun k_ => (w.heap.size ≤ k_)) ho51 (keep_size (w := w) (g := g) (row := none) hK0_) (fun k_ h_ => h_)) (Kd.R_lt (kR_ HO1254.out))) (keep_size (w := w) (g := g) (row := none) hK0_))
         replace HO1254 := Aside0.mk (Kd.R_elder' (kR_ HO1254.out) (Kd.R_base ho51) hb)
         replace HK := Aside0.mk (KeepBut.trans hK0_ (KeepBut.of_below hb g none) (.inl rfl))
         replace HB := Aside0.mk (below_step (hs_ (IsS91.ge HI0.out)) hb)
         replace HI0 := Aside0.mk (IsS91.below (by repeat (first | (with_reducible first | exact HI0.out | apply IsS91.alloc | apply IsS91.drewN | apply IsS91.drew | apply IsS91.set_1) | exact HI0.out)) hb)
         clear hb ho51
         refine hK.out _ _ ⟨HS0_, HS1_⟩ (fun hHeld => ?_)
         clear hK K
         refine norm_ (a' := ?_) ?_ ?_
         rotate_left
         ·show Act.put _ (some 63) _ = _
          simp only [Act.put, List.setIfInBounds_toArray, List.set_cons_zero, List.set_cons_succ, i64_w, i32_w]
          rfl
         refine one_ (i := 2) (N := some 65) (tf_ 7 2) rfl rfl (one_of HT_.out (by kernel_rfl)) (by decide) (fun K hK => ?_)
         refine Kd.R_append_rows_step k65 w.heap.size (by rfl) (.tmp 63) (.tmp 64) 51 65 (.agg #[(.int .i64 0), (.string ⟨#[]⟩)]) 24 rfl Try.underlying51 info65 rfl (by decide) (by omega) v1246 y1245 x6_1 _ _ _ (fun k_ => (w.heap.size ≤ k_) ∧ some k_ ≠ (v1253 : Value).ownBlock) (fun _ => False) rfl rfl ?aO ?aR (fun _ _ h => h) (fun _ h => h.elim) ?aF (Below.refl _ _) ?aS ?aL ?_
         (case aR => repeat (first | exact (Kd.V_reads' HO_6.out).2.2 | (with_reducible refine Kd.C_alloc ?_ _) | (with_reducible refine Kd.C_drewN ?_ _) | (with_reducible refine Kd.C_drew ?_)))
         (case aF => exact (fun k_ hk => ⟨(Nat.le_trans (keep_size (w := w) (g := g) (row := none) hK0_) hk), Kd.fresh' (Kd.R_lt (kR_ HO1254.out)) k_ hk⟩))
         (case aO => exact (by refine kR_ ?_; exact Kd.R_mono HO1247.out (fun _ hk => ⟨hk.1.1, hk.2⟩)))
         (case aS => exact (keep_size (w := w) (g := g) (row := none) hK0_))
         (case aL => have := LMc41.out; omega)
         intro v1249 w52 ho hb hg hat
         rw [← Ny1248.out] at ho
         have n0_ := Aside0.mk (Kd.V_afterv (ok := (fun k_ => (w.heap.size ≤ k_) ∧ some k_ ≠ (v1253 : Value).ownBlock ∧ k_ ≠ g)) (by refine kV_ ?_; exact Kd.V_mono HO_6.out (fun _ hk => ⟨⟨hk.1.1.1, ⟨hk.1.2, hk.1.1.2⟩⟩, hk.2⟩)) hg hat)
         have n1_ := Aside0.mk (IsS91.grown (by repeat (first | (with_reducible first | exact HI0.out | apply IsS91.alloc | apply IsS91.drewN | apply IsS91.drew | apply IsS91.set_1) | exact HI0.out)) hg (IsS91.own_ne HI0.out HO1247.out (by decide)))
         have n2_ := Aside0.mk (Kd.R_after (ok := (fun k_ => (w.heap.size ≤ k_))) (by refine kR_ ?_; exact Kd.R_mono HO1254.out (fun _ hk => ⟨hk.1.1, hk.2⟩)) hg hat)
         have n3_ := Aside0.mk (below_weaken (hs_ (IsS91.ge HI0.out)) HL.out hb)
         have n4_ := Aside0.mk (KeepBut.trans hK0_ (KeepBut.of_grown hg g) (Kd.R_base2 HO1247.out))
         have n5_ := Aside0.mk (ho)
         clear HO_6
         clear HI0
         clear HO1254
         clear HB
         clear HK
         clear HO1247
         have HO_6 := n0_
         have HI0 := n1_
         have HO1254 := n2_
         have HB := n3_
         have HK := n4_
         have HO1250 := n5_
         clear n0_ n1_ n2_ n3_ n4_ n5_
         clear ho hb hg hat
         obtain ⟨adz0_, ez0_, HZ0_0_, HZ0_1_⟩ := at_T65 (Kd.V_reads' HO_6.out).2.2 0 (by first | exact p1251 | exact of_eq_true p1251) (by first | exact q1251 | exact of_eq_true q1251)
         cases ez0_
         refine hK.out _ _ ⟨HZ0_0_, HZ0_1_⟩ (fun hHeld => ?_)
         clear hK K
         refine norm_ (a' := ?_) ?_ ?_
         rotate_left
         ·show Act.put _ (some 65) _ = _
          simp only [Act.put, List.setIfInBounds_toArray, List.set_cons_zero, List.set_cons_succ, i64_w, i32_w]
          rfl
         exact norm_ (by simp only [putAll, Act.put, List.setIfInBounds_toArray, List.set_cons_zero, List.set_cons_succ]) (hCont (v1246, v1249, v1253) _ ⟨hHeld, (kR_ HO1250.out), (kR_ HO1254.out), (by refine kV_ ?_; exact Kd.V_mono HO_6.out (fun _ hk => ⟨hk.1.1, ⟨hk.2, ⟨hk.1.2.1, hk.1.2.2⟩⟩⟩)), (by repeat (first | (with_reducible first | exact HI0.out | apply IsS91.alloc | apply IsS91.drewN | apply IsS91.drew | apply IsS91.set_1) | exact HI0.out)), hK0_, (hs_ (IsS91.ge HI0.out))⟩)
       rintro ⟨v1246, v1249, v1253⟩ w53 ⟨hS_, h0_, h1_, h2_, h3_, h4_, h5_⟩
       have n0_ : Aside0 (Kd.R k65 65 w53 w.heap.size (fun k_ => (w.heap.size ≤ k_) ∧ some k_ ≠ (v1253 : Value).ownBlock) v1249 y1248) := ⟨h0_⟩
       have n1_ : Aside0 (Kd.R k65 65 w53 w.heap.size (fun k_ => (w.heap.size ≤ k_) ∧ some k_ ≠ (v1249 : Value).ownBlock) v1253 y1252) := ⟨h1_⟩
       have n2_ : Aside0 (Kd.V k65 65 w53 w.heap.size (fun k_ => (w.heap.size ≤ k_) ∧ some k_ ≠ (v1249 : Value).ownBlock ∧ some k_ ≠ (v1253 : Value).ownBlock ∧ k_ ≠ g) (.slice (some ad1251) x6_1.length co46) x6_1) := ⟨h2_⟩
       have n3_ : Aside0 (IsS91 w0 w53 g s0_0 t1229) := ⟨h3_⟩
       have n4_ : Aside0 (KeepBut w w53 g none) := ⟨h4_⟩
       have n5_ : Aside0 (Below w0.heap.size w0 w53) := ⟨h5_⟩
       clear HO_6
       clear HI0
       clear HK
       clear HB
       clear h0_ h1_ h2_ h3_ h4_ h5_
       have HO1250 := n0_
       have HO1254 := n1_
       have HO_6 := n2_
       have HI0 := n3_
       have HK := n4_
       have HB := n5_
       clear n0_ n1_ n2_ n3_ n4_ n5_
       have hHeld : w53.cell? ad1251 = some (.int .i64 ((rd_T65 x6_1 0).f0)) ∧ w53.cell? ⟨ad1251.block, ad1251.off + 1, none⟩ = some (.string ((rd_T65 x6_1 0).f1)) := hS_
       obtain ⟨Ao55, co55, eo55⟩ := Kd.R_slice HO1254.out
       (first | subst eo55 | (injection eo55 with f1_ f2_ f3_; have f4_ := f1_.symm; have f5_ := f3_.symm; clear f1_ f2_ f3_; subst f4_; subst f5_))
       refine norm_ (a' := ?_) ?_ ?_
       rotate_left
       ·simp only [putAll, Act.put, List.setIfInBounds_toArray, List.set_cons_zero, List.set_cons_succ]
        rfl
       refine one_ (i := 7) (N := some 70) (tf_ 8 1) rfl rfl (one_of HT_.out (by kernel_rfl)) (by decide) (fun K hK => ?_)
       refine Kd.R_append_rows_step k65 w.heap.size (by rfl) (.tmp 65) (.tmp 69) 51 65 (.agg #[(.int .i64 0), (.string ⟨#[]⟩)]) 24 rfl Try.underlying51 info65 rfl (by decide) (by omega) v1249 y1248 y1252 _ _ _ (fun k_ => (w.heap.size ≤ k_) ∧ some k_ ≠ (.slice Ao55 y1252.length co55 : Value).ownBlock) (fun _ => False) rfl rfl ?aO ?aR (fun _ _ h => h) (fun _ h => h.elim) ?aF (Below.refl _ _) ?aS ?aL ?_
       (case aR => repeat (first | exact (Kd.R_reads' HO1254.out).2.2 | (with_reducible refine Kd.C_alloc ?_ _) | (with_reducible refine Kd.C_drewN ?_ _) | (with_reducible refine Kd.C_drew ?_)))
       (case aF => exact (fun k_ hk => ⟨(Nat.le_trans (keep_size (w := w) (g := g) (row := none) hK0_) hk), Kd.fresh' (Kd.R_lt (kR_ HO1254.out)) k_ hk⟩))
       (case aO => exact (kR_ HO1250.out))
       (case aS => exact (keep_size (w := w) (g := g) (row := none) hK0_))
       (case aL => have := LMc43.out; omega)
       intro v1256 w54 ho hb hg hat
       rw [← Ny1255.out] at ho
       have n0_ := Aside0.mk (Kd.V_afterv (ok := (fun k_ => (w.heap.size ≤ k_) ∧ some k_ ≠ (.slice Ao55 y1252.length co55 : Value).ownBlock ∧ k_ ≠ g)) (by refine kV_ ?_; exact Kd.V_mono HO_6.out (fun _ hk => ⟨⟨hk.1, ⟨hk.2.2.1, hk.2.2.2⟩⟩, hk.2.1⟩)) hg hat)
       have n1_ := Aside0.mk (IsS91.grown (by repeat (first | (with_reducible first | exact HI0.out | apply IsS91.alloc | apply IsS91.drewN | apply IsS91.drew | apply IsS91.set_1) | exact HI0.out)) hg (IsS91.own_ne HI0.out HO1250.out (by decide)))
       have n2_ := Aside0.mk (Kd.R_after (ok := (fun k_ => (w.heap.size ≤ k_))) (kR_ HO1254.out) hg hat)
       have n3_ := Aside0.mk (below_weaken (hs_ (IsS91.ge HI0.out)) HL.out hb)
       have n4_ := Aside0.mk (KeepBut.trans hK0_ (KeepBut.of_grown hg g) (Kd.R_base2 HO1250.out))
       have n5_ := Aside0.mk (ho)
       clear HO_6
       clear HI0
       clear HO1254
       clear HB
       clear HK
       clear HO1250
       have HO_6 := n0_
       have HI0 := n1_
       have HO1254 := n2_
       have HB := n3_
       have HK := n4_
       have HO1257 := n5_
       clear n0_ n1_ n2_ n3_ n4_ n5_
       clear ho hb hg hat
       obtain ⟨adz0_, ez0_, HZ0_0_, HZ0_1_⟩ := at_T65 (Kd.V_reads' HO_6.out).2.2 0 (by first | exact p1251 | exact of_eq_true p1251) (by first | exact q1251 | exact of_eq_true q1251)
       cases ez0_
       refine hK.out _ _ ⟨HZ0_0_, HZ0_1_⟩ (fun hHeld => ?_)
       clear hK K
       refine norm_ (a' := ?_) ?_ ?_
       rotate_left
       ·show Act.put _ (some 70) _ = _
        simp only [Act.put, List.setIfInBounds_toArray, List.set_cons_zero, List.set_cons_succ, i64_w, i32_w]
        rfl
       refine paA_ 8 6 9 0 ?_
       refine done_ (done_of HT_.out (by kernel_rfl)) ?_
       try go_wp2
       go_ret2
       exact ⟨_, er_, Kd.R_V (by refine kR_ ?_; exact Kd.R_mono HO1257.out (fun _ hk => hk.1)), by repeat (first | (with_reducible first | exact HI0.out | apply IsS91.alloc | apply IsS91.drewN | apply IsS91.drew | apply IsS91.set_1) | exact HI0.out), hs_ (IsS91.ge HI0.out), by repeat (first | (with_reducible first | exact HK.out | apply KeepBut.set_ | apply keep_drewN | apply keep_drew | apply keep_alloc) | exact HK.out)⟩
      ·rw [if_neg c40] at H
       have c40b0 : (t1228 == 1) = false := beq_eq_false_iff_ne.mpr c40
       have c40b1 : (t1228 != 1) = true := bne_iff_ne.mpr c40
       obtain ⟨y1258, hy1258⟩ : ∃ y_ : List (S65), y_ = (([] : List (S65))) := ⟨_, rfl⟩
       replace H : (if y1258.length + x6_1.length < 5864062014805 then ((some (y1258 ++ x6_1 : List (S65))).bind fun y1261 => (if 0 ≤ (wrap64 ((y1261.length : Int) - 1)) then (if (wrap64 ((y1261.length : Int) - 1)) < (y1261.length : Int) then (some ((y1261.set ((wrap64 ((y1261.length : Int) - 1)) : Int).toNat (⟨(rd_T65 y1261 (wrap64 ((y1261.length : Int) - 1))).f0, (⟨#[116, 117, 114, 110, 101, 100]⟩ : ByteArray)⟩ : S65)), x7_1, t1229)) else (none)) else (none))) else (none)) = some (r1, r2, r3) := hq_ hy1258 H
       have Ny1258 := Aside0.mk hy1258
       clear hy1258
       by_cases c56 : y1258.length + x6_1.length < 5864062014805; rotate_left
       ·rw [if_neg c56] at H; exact absurd H (by simp)
       rw [if_pos c56] at H
       have LMc56 := Aside0.mk c56
       clear c56
       obtain ⟨y1261, hy1261⟩ : ∃ y_ : List (S65), y_ = (y1258 ++ x6_1) := ⟨_, rfl⟩
       replace H : (if 0 ≤ (wrap64 ((y1261.length : Int) - 1)) then (if (wrap64 ((y1261.length : Int) - 1)) < (y1261.length : Int) then (some ((y1261.set ((wrap64 ((y1261.length : Int) - 1)) : Int).toNat (⟨(rd_T65 y1261 (wrap64 ((y1261.length : Int) - 1))).f0, (⟨#[116, 117, 114, 110, 101, 100]⟩ : ByteArray)⟩ : S65)), x7_1, t1229)) else (none)) else (none)) = some (r1, r2, r3) := hq_ hy1261 H
       have Ny1261 := Aside0.mk hy1261
       clear hy1261
       obtain ⟨ji57, hji57⟩ : ∃ j_ : Int, (wrap64 ((y1261.length : Int) - 1)) = j_ := ⟨_, rfl⟩
       replace H : (if 0 ≤ (ji57) then (if (ji57) < (y1261.length : Int) then (some ((y1261.set ((ji57) : Int).toNat (⟨(rd_T65 y1261 (ji57)).f0, (⟨#[116, 117, 114, 110, 101, 100]⟩ : ByteArray)⟩ : S65)), x7_1, t1229)) else (none)) else (none)) = some (r1, r2, r3) := by first | (rw [hji57] at H; exact H) | (simp only [hji57] at H ⊢; exact H)
       (try rw [hji57] at A14)
       (try rw [hji57] at A16)
       have hji57w : (IntKind.i64.wrap ((y1261.length : Int) - 1)) = ji57 := (i64_w _).trans hji57
       by_cases c58 : 0 ≤ (ji57); rotate_left
       ·rw [if_neg c58] at H; exact absurd H (by simp)
       rw [if_pos c58] at H
       have c58b0 : decide (0 ≤ (ji57)) = true := decide_eq_true c58
       clear c58
       by_cases c59 : (ji57) < (y1261.length : Int); rotate_left
       ·rw [if_neg c59] at H; exact absurd H (by simp)
       rw [if_pos c59] at H
       have c59b0 : decide ((ji57) < (y1261.length : Int)) = true := decide_eq_true c59
       clear c59
       obtain ⟨y1264, hy1264⟩ : ∃ y_ : List (S65), y_ = (y1261.set ((ji57) : Int).toNat (⟨(rd_T65 y1261 (ji57)).f0, (⟨#[116, 117, 114, 110, 101, 100]⟩ : ByteArray)⟩ : S65)) := ⟨_, rfl⟩
       replace H : (some (y1264, x7_1, t1229)) = some (r1, r2, r3) := hq_ hy1264 H
       have Ny1264 := Aside0.mk hy1264
       clear hy1264
       simp only [Option.some.injEq, Prod.mk.injEq] at H
       obtain ⟨rfl, rfl, rfl⟩ := H
       go_wp2_with (first | ((with_reducible refine gate_callee (f := 74) rfl ?_); refine gl_ (some 32) Try.func74 #[.pointer (some ⟨g, 0, none⟩), .int .i64 a1] ?_; (with_reducible refine (spec_l20Rd_odd.calls k1 g s0_0 x1001_1 a1 true t1227 w0 _ ?side1 ?side2 A14.out).mono ?_); (case side1 => repeat (first | (with_reducible first | exact HI0.out | apply IsS91.alloc | apply IsS91.drewN | apply IsS91.drew | apply IsS91.set_1) | exact HI0.out)); (case side2 => exact hs_ (IsS91.ge HI0.out)); rintro e w61 ⟨rfl, hi, hb, hk⟩; refine ⟨_, rfl, ?_⟩; have n0_ := Aside0.mk (Kd.V_mono (Kd.V_keep (Kd.V_mono (ok := fun k_ => (((w.heap.size ≤ k_)) ∧ k_ ≠ g)) (kV_ HO_6.out) (fun k_ hk_ => (⟨hk_, hk_.2⟩ : _ ∧ k_ ≠ g))) hk (fun _ h => h.2)) (fun _ h => h.1)); have n1_ := Aside0.mk (KeepBut.trans hK0_ hk (.inl rfl)); have n2_ := Aside0.mk (hb); have n3_ := Aside0.mk (hi); clear HO_6; clear HK; clear HB; clear HI0; have HO_6 := n0_; have HK := n1_; have HB := n2_; have HI0 := n3_; clear n0_ n1_ n2_ n3_; (try clear hb); (try clear hk); (try clear hi)) | ((with_reducible refine gate_callee (f := 70) rfl ?_); refine gl_ (some 34) Try.func70 #[.pointer (some ⟨g, 0, none⟩), .int .i64 3] ?_; (with_reducible refine (spec_l20Rd_pick.calls k1 g s0_0 t1227 3 t1228 t1229 w0 _ ?side1 ?side2 A16.out).mono ?_); (case side1 => repeat (first | (with_reducible first | exact HI0.out | apply IsS91.alloc | apply IsS91.drewN | apply IsS91.drew | apply IsS91.set_1) | exact HI0.out)); (case side2 => exact hs_ (IsS91.ge HI0.out)); rintro e w62 ⟨rfl, hi, hb, hk⟩; refine ⟨_, rfl, ?_⟩; have n0_ := Aside0.mk (Kd.V_mono (Kd.V_keep (Kd.V_mono (ok := fun k_ => (((w.heap.size ≤ k_)) ∧ k_ ≠ g)) (kV_ HO_6.out) (fun k_ hk_ => (⟨hk_, hk_.2⟩ : _ ∧ k_ ≠ g))) hk (fun _ h => h.2)) (fun _ h => h.1)); have n1_ := Aside0.mk (KeepBut.trans hK0_ hk (.inl rfl)); have n2_ := Aside0.mk (hb); have n3_ := Aside0.mk (hi); clear HO_6; clear HK; clear HB; clear HI0; have HO_6 := n0_; have HK := n1_; have HB := n2_; have HI0 := n3_; clear n0_ n1_ n2_ n3_; (try clear hb); (try clear hk); (try clear hi)) | ((with_reducible refine gate_dst (N := 35) rfl ?_); refine Kd.R_lit k65 _ 65 ?hg (N := 35) ?hd (xs := ([] : List (S65))) (inner := []) (ok := fun _ => True) (okp := fun _ => True) ?hr ?hp (fun _ hk => hk) trivial (Below.refl _ _) (Nat.le_refl _) (by simp) ?_; (case hd => rfl); (case hg => rfl); (case hr => first | (go_simp; done) | (go_simp; rfl)); (case hp => exact (Reps.none _ _)); intro v1259 w63 ho64 hb hg_ hnew_; clear hg_ hnew_; (first | rw [← Ny1258.out] at ho64 | (simp only [Int.reduceToNat] at ho64; rw [← Ny1258.out] at ho64)); have n0_ := Aside0.mk (Kd.V_elder' (kV_ HO_6.out) (Kd.R_base ho64) hb); have n1_ := Aside0.mk (Kd.R_lower (Kd.R_newM (M := fun k_ => (w.heap.size ≤ k_)) ho64 (keep_size (w := w) (g := g) (row := none) hK0_) (fun k_ h_ => h_)) (keep_size (w := w) (g := g) (row := none) hK0_)); have n2_ := Aside0.mk (IsS91.below (by repeat (first | (with_reducible first | exact HI0.out | apply IsS91.alloc | apply IsS91.drewN | apply IsS91.drew | apply IsS91.set_1) | exact HI0.out)) hb); have n3_ := Aside0.mk (KeepBut.trans hK0_ (KeepBut.of_below hb g none) (.inl rfl)); have n4_ := Aside0.mk (below_step (hs_ (IsS91.ge HI0.out)) hb); clear HO_6; clear HI0; clear HK; clear HB; have HO_6 := n0_; have HO1260 := n1_; have HI0 := n2_; have HK := n3_; have HB := n4_; clear n0_ n1_ n2_ n3_ n4_; clear hb ho64; obtain ⟨Ao66, co66, eo66⟩ := Kd.V_slice HO_6.out; subst eo66) | ((with_reducible refine gate_builtin (b := .append) (xs := #[.tmp 35, .tmp 36]) rfl ?_); at_builtin; refine Kd.R_append_rows k65 w.heap.size rfl (.tmp 35) (.tmp 36) 51 65 (.agg #[(.int .i64 0), (.string ⟨#[]⟩)]) 24 rfl Try.underlying51 info65 rfl (by decide) (by omega) v1259 y1258 x6_1 _ _ _ (fun k_ => (w.heap.size ≤ k_)) (fun _ => False) rfl rfl ?aO ?aR (fun _ _ h => h) (fun _ h => h.elim) ?aF (Below.refl _ _) ?aS ?aL ?_; (case aR => repeat (first | exact (Kd.V_reads' HO_6.out).2.2 | (with_reducible refine Kd.C_alloc ?_ _) | (with_reducible refine Kd.C_drewN ?_ _) | (with_reducible refine Kd.C_drew ?_))); (case aF => exact (fun k_ hk => (Nat.le_trans (keep_size (w := w) (g := g) (row := none) hK0_) hk))); (case aO => exact (by refine kR_ ?_; exact Kd.R_mono HO1260.out (fun _ hk => hk.1))); (case aS => exact (keep_size (w := w) (g := g) (row := none) hK0_)); (case aL => have := LMc56.out; omega); intro v1262 w65 ho hb hg hat; rw [← Ny1261.out] at ho; have n0_ := Aside0.mk (Kd.V_afterv (ok := (fun k_ => (w.heap.size ≤ k_) ∧ k_ ≠ g)) (kV_ HO_6.out) hg hat); have n1_ := Aside0.mk (IsS91.grown (by repeat (first | (with_reducible first | exact HI0.out | apply IsS91.alloc | apply IsS91.drewN | apply IsS91.drew | apply IsS91.set_1) | exact HI0.out)) hg (IsS91.own_ne HI0.out HO1260.out (by decide))); have n2_ := Aside0.mk (below_weaken (hs_ (IsS91.ge HI0.out)) HL.out hb); have n3_ := Aside0.mk (KeepBut.trans hK0_ (KeepBut.of_grown hg g) (Kd.R_base2 HO1260.out)); have n4_ := Aside0.mk (ho); clear HO_6; clear HI0; clear HB; clear HK; clear HO1260; have HO_6 := n0_; have HI0 := n1_; have HB := n2_; have HK := n3_; have HO1263 := n4_; clear n0_ n1_ n2_ n3_ n4_; clear ho hb hg hat; obtain ⟨Ao67, co67, eo67⟩ := Kd.R_slice HO1263.out; subst eo67; have p60 : 0 ≤ ((ji57) : Int) := dt_; have q60 : ((ji57) : Int) < ((y1261.length : Int) : Int) := dt_; obtain ⟨go60, co60, eo60, gb60, gl60, cl60, HG60⟩ := Kd.R_form HO1263.out (by omega); (first | cases eo60 | (injection eo60 with ea_ en_ ec_; (first | subst ea_ | (injection ea_ with ea_; subst ea_)); subst ec_; clear en_)); have GB60 := Aside0.mk gb60; have GG60 := Aside0.mk HG60; clear gb60 gl60 HG60; obtain ⟨ce60, hcl60, hM60, hcc60, hfr60⟩ := Kd.R_elem HO1263.out z65 ((ji57) : Int) p60 q60; obtain rfl := k65_openM hM60; have hx60_0 : w65.cell? ⟨go60, ((ji57) : Int).toNat * 2, none⟩ = some (.int .i64 ((rd_T65 y1261 (ji57)).f0)) := hcc60 0 _ rfl; have hx60_1 : w65.cell? ⟨go60, ((ji57) : Int).toNat * 2 + 1, none⟩ = some (.string ((rd_T65 y1261 (ji57)).f1)) := hcc60 1 _ rfl; have hf60_0 : w65.frozen? ⟨go60, ((ji57) : Int).toNat * 2, none⟩ = false := hfr60 0; have hf60_1 : w65.frozen? ⟨go60, ((ji57) : Int).toNat * 2 + 1, none⟩ = false := hfr60 1; clear hcl60 hcc60 hfr60 hM60; replace p60 := eq_true p60; replace q60 := eq_true q60; have HX68 := Aside0.mk (show Kd.R k65 65 w65 w.heap.size (fun k_ => (w.heap.size ≤ k_)) (.slice (some ⟨go60, 0, none⟩) y1261.length co67) y1261 from (kR_ HO1263.out)); obtain ⟨ce68, hcl68, hM68, hcc68, hfr68⟩ := Kd.R_elem HX68.out z65 ((ji57) : Int) (dt_) (by have h_ : ((ji57) : Int) < ((y1261.length : Int) : Int) := dt_; first | exact h_ | (have e_ := (Kd.R_reads' HO1263.out).1; omega) | simpa using h_); obtain rfl := k65_openM hM68; have HP68 := Kd.R_seg HX68.out ((ji57) : Int) (dt_) (by have h_ : ((ji57) : Int) < ((y1261.length : Int) : Int) := dt_; first | exact h_ | (have e_ := (Kd.R_reads' HO1263.out).1; omega) | simpa using h_) (seg := [.string (⟨#[116, 117, 114, 110, 101, 100]⟩ : ByteArray)]) (j := 1) hcl68 hcc68 (show 2 ≤ 2 from by decide) (x' := (⟨(rd_T65 y1261 (ji57)).f0, (⟨#[116, 117, 114, 110, 101, 100]⟩ : ByteArray)⟩ : S65)) (k65_mkM _ _ _ (⟨(rd_T65 y1261 (ji57)).f0, (⟨#[116, 117, 114, 110, 101, 100]⟩ : ByteArray)⟩ : S65) ) (fun _ hk => hk); have hx68_1 := hcc68 1 _ rfl; (try simp only [show (k65).sz = 2 from rfl, Nat.mul_one, Nat.add_zero] at hx68_1); have hf68_1 := hfr68 1; (try simp only [show (k65).sz = 2 from rfl, Nat.mul_one, Nat.add_zero] at hf68_1); clear hcl68 hcc68 hfr68 hM68) | ((with_reducible refine gate_store (t := 9) (p := 43) rfl ?_); refine store_event (t := 9) (p := 43) (v := ?vo_w69) (w1 := (w65.setCell ⟨go60, ((ji57) : Int).toNat * 2 + 1, none⟩ (.string (⟨#[116, 117, 114, 110, 101, 100]⟩ : ByteArray)))) ?hg ?ho ?hn ?hr ?_; (case ho => rfl); (case hg => rfl); (case hn => rfl); (case hr => first | (go_simp; done) | (go_simp; rfl)); intro w69 hw; have hg : w65.grownBy w69 (some go60) := (by rw [hw]; exact HP68.2); have hp_ : Kd.R k65 65 w69 w.heap.size (fun k_ => (w.heap.size ≤ k_)) (.slice (some ⟨go60, 0, none⟩) y1261.length co67) y1264 := (by rw [hw, Ny1264.out]; exact HP68.1); clear HP68; have n0_ := Aside0.mk (Kd.V_afterv (v := (.slice (some ⟨go60, 0, none⟩) y1261.length co67)) (v1 := (.slice (some ⟨go60, 0, none⟩) y1261.length co67)) (ok := (fun k_ => (w.heap.size ≤ k_) ∧ k_ ≠ g)) (kV_ HO_6.out) hg (.inl rfl)); have n1_ := Aside0.mk (IsS91.grown (by repeat (first | (with_reducible first | exact HI0.out | apply IsS91.alloc | apply IsS91.drewN | apply IsS91.drew | apply IsS91.set_1) | exact HI0.out)) hg (IsS91.own_ne HI0.out HO1263.out (by decide))); have n2_ := Aside0.mk (hp_); have n3_ := Aside0.mk ((by rw [hw]; exact below_set (HB.out) (Nat.le_trans HL.out GB60.out) : Below w0.heap.size w0 w69)); have n4_ := Aside0.mk (KeepBut.trans hK0_ (KeepBut.of_grown hg g) (Kd.R_base2 HO1263.out)); clear HO_6; clear HI0; clear HO1263; clear HB; clear HK; have HO_6 := n0_; have HI0 := n1_; have HO1263 := n2_; have HB := n3_; have HK := n4_; clear n0_ n1_ n2_ n3_ n4_; clear hg hw hp_))
       go_ret2
       exact ⟨_, by first | rfl | (simp [errW_none, errW_some] <;> rfl) | (simp only [← hji57]; first | rfl | (simp [errW_none, errW_some] <;> rfl)) | (simp [*, errW_none, errW_some] <;> rfl), Kd.R_V (kR_ HO1263.out), by repeat (first | (with_reducible first | exact HI0.out | apply IsS91.alloc | apply IsS91.drewN | apply IsS91.drew | apply IsS91.set_1) | exact HI0.out), hs_ (IsS91.ge HI0.out), by repeat (first | (with_reducible first | exact HK.out | apply KeepBut.set_ | apply keep_drewN | apply keep_drew | apply keep_alloc) | exact HK.out)⟩
    ·replace c15 := Bool.eq_false_iff.mpr c15
     subst c15
     have H1 : (some (x6_1, x7_1, t1227)) = some (r1, r2, r3) := by rw [if_neg (show ¬ (false = true) by decide)] at H; exact H
     clear H
     have H := H1
     clear H1
     simp only [Option.some.injEq, Prod.mk.injEq] at H
     obtain ⟨rfl, rfl, rfl⟩ := H
     go_wp2_with (first | ((with_reducible refine gate_callee (f := 74) rfl ?_); refine gl_ (some 32) Try.func74 #[.pointer (some ⟨g, 0, none⟩), .int .i64 a1] ?_; (with_reducible refine (spec_l20Rd_odd.calls k1 g s0_0 x1001_1 a1 false t1227 w0 _ ?side1 ?side2 A14.out).mono ?_); (case side1 => repeat (first | (with_reducible first | exact HI0.out | apply IsS91.alloc | apply IsS91.drewN | apply IsS91.drew | apply IsS91.set_1) | exact HI0.out)); (case side2 => exact hs_ (IsS91.ge HI0.out)); rintro e w70 ⟨rfl, hi, hb, hk⟩; refine ⟨_, rfl, ?_⟩; have n0_ := Aside0.mk (Kd.V_mono (Kd.V_keep (Kd.V_mono (ok := fun k_ => (((w.heap.size ≤ k_)) ∧ k_ ≠ g)) (kV_ HO_6.out) (fun k_ hk_ => (⟨hk_, hk_.2⟩ : _ ∧ k_ ≠ g))) hk (fun _ h => h.2)) (fun _ h => h.1)); have n1_ := Aside0.mk (KeepBut.trans hK0_ hk (.inl rfl)); have n2_ := Aside0.mk (hb); have n3_ := Aside0.mk (hi); clear HO_6; clear HK; clear HB; clear HI0; have HO_6 := n0_; have HK := n1_; have HB := n2_; have HI0 := n3_; clear n0_ n1_ n2_ n3_; (try clear hb); (try clear hk); (try clear hi)))
     go_ret2
     exact ⟨_, er_, by refine kV_ ?_; exact Kd.V_mono HO_6.out (fun _ hk => hk.1), by repeat (first | (with_reducible first | exact HI0.out | apply IsS91.alloc | apply IsS91.drewN | apply IsS91.drew | apply IsS91.set_1) | exact HI0.out), hs_ (IsS91.ge HI0.out), by repeat (first | (with_reducible first | exact HK.out | apply KeepBut.set_ | apply keep_drewN | apply keep_drew | apply keep_alloc) | exact HK.out)⟩
end Go.Proofs.Ytcbmkonigclceaa.P
