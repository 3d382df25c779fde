-- The functions of the seat as plain Lean functions, made by the kit's print.py for all laws at once. Not trusted: Lean checks it.
import Derived.Test.YtjgbidklkhohfaaPx0
import Derived.Test.YtjgbidklkhohfaaPx2
namespace Go.Proofs.Ytjgbidklkhohfaa.P
open Go.RowKit Go.Proofs.YtjgbidklkhohfaaW.PrintWords Go.Proofs.YtjgbidklkhohfaaW.PrintLast Go.Proofs.YtjgbidklkhohfaaW.PrintMore
attribute [local go_sem] max2_int min2_int max_two min_two max_three min_three max_four min_four   -- for this text's walks alone
set_option linter.unusedVariables false
set_option linter.unusedSimpArgs false
/-! ### spec_DropEntry: function 45 -/
mutual
def spec_DropEntry.l0 : Nat → List (S79) → ByteArray → List (S79) → Int → Option ((List (S79)) × Bool)
 | 0, _, _, _, _ => none
 | k + 1, x0, x1, x6, x7 => if x7 < (x0.length : Int) then ((spec_EntriesValid.f k x0).bind fun t251 => (spec_DropEntry.j1 k x0 x1 x6 x7 t251)) else (spec_DropEntry.j1 k x0 x1 x6 x7 false)
def spec_DropEntry.j1 : Nat → List (S79) → ByteArray → List (S79) → Int → Bool → Option ((List (S79)) × Bool)
 | 0, _, _, _, _, _ => none
 | k + 1, x0, x1, x6, x7, x16 => if x16 = true then (if 0 ≤ x7 then (if x7 < (x0.length : Int) then (if ((rd_T79 x0 x7).f0).toList = x1.toList then (spec_DropEntry.l0 k x0 x1 x6 (wrap64 (x7 + 1))) else (if x6.length < 5864062014805 then (spec_DropEntry.l0 k x0 x1 (x6 ++ [(⟨(rd_T79 x0 x7).f0, (rd_T79 x0 x7).f1⟩ : S79)]) (wrap64 (x7 + 1))) else (none))) else (none)) else (none)) else ((spec_EntriesValid.f k x0).bind fun t257 => (if t257 = true then (some (x6, decide ((x6.length : Int) < (x0.length : Int)))) else (some (x6, false))))
end
def spec_DropEntry.f (k : Nat) (l0 : List (S79)) (a1 : ByteArray) : Option ((List (S79)) × Bool) := spec_DropEntry.l0 k l0 a1 (([] : List (S79))) 0
theorem spec_DropEntry.mono_l : ∀ k, (∀ y0 y1 y2 y3, LeO (spec_DropEntry.l0 k y0 y1 y2 y3) (spec_DropEntry.l0 (k + 1) y0 y1 y2 y3)) ∧ (∀ y0 y1 y2 y3 y4, LeO (spec_DropEntry.j1 k y0 y1 y2 y3 y4) (spec_DropEntry.j1 (k + 1) y0 y1 y2 y3 y4))
 | 0 => ⟨fun _ _ _ _ r h => by simp [spec_DropEntry.l0] at h, fun _ _ _ _ _ r h => by simp [spec_DropEntry.j1] at h⟩
 | k + 1 => by
  obtain ⟨ih0, ih1⟩ := spec_DropEntry.mono_l k
  refine ⟨?_, ?_⟩
  ·intro y0 y1 y2 y3
   unfold spec_DropEntry.l0
   repeat' first
   | (with_reducible exact ih0 _ _ _ _)
   | (with_reducible exact ih1 _ _ _ _ _)
   | (with_reducible exact spec_EntriesValid.mono _ _)
   | (with_reducible exact LeO.refl _)
   | (with_reducible exact LeO.none _)
   | (with_reducible refine LeO.ite ?_ ?_)
   | (with_reducible refine LeO.bind ?_ (fun _ => ?_))
   | exact ih0 _ _ _ _
   | exact ih1 _ _ _ _ _
   | exact spec_EntriesValid.mono _ _
   | exact LeO.none _
   | refine LeO.ite ?_ ?_
   | refine LeO.bind ?_ (fun _ => ?_)
  ·intro y0 y1 y2 y3 y4
   unfold spec_DropEntry.j1
   repeat' first
   | (with_reducible exact ih0 _ _ _ _)
   | (with_reducible exact ih1 _ _ _ _ _)
   | (with_reducible exact spec_EntriesValid.mono _ _)
   | (with_reducible exact LeO.refl _)
   | (with_reducible exact LeO.none _)
   | (with_reducible refine LeO.ite ?_ ?_)
   | (with_reducible refine LeO.bind ?_ (fun _ => ?_))
   | exact ih0 _ _ _ _
   | exact ih1 _ _ _ _ _
   | exact spec_EntriesValid.mono _ _
   | exact LeO.none _
   | refine LeO.ite ?_ ?_
   | refine LeO.bind ?_ (fun _ => ?_)
theorem spec_DropEntry.mono : ∀ a0 a1 k, LeO (spec_DropEntry.f k a0 a1) (spec_DropEntry.f (k + 1) a0 a1) := by
 intro a0 a1 k
 obtain ⟨ih0, ih1⟩ := spec_DropEntry.mono_l k
 unfold spec_DropEntry.f
 repeat' first
   | (with_reducible exact ih0 _ _ _ _)
   | (with_reducible exact ih1 _ _ _ _ _)
   | (with_reducible exact spec_EntriesValid.mono _ _)
   | (with_reducible exact LeO.refl _)
   | (with_reducible exact LeO.none _)
   | (with_reducible refine LeO.ite ?_ ?_)
   | (with_reducible refine LeO.bind ?_ (fun _ => ?_))
   | exact ih0 _ _ _ _
   | exact ih1 _ _ _ _ _
   | exact spec_EntriesValid.mono _ _
   | exact LeO.none _
   | refine LeO.ite ?_ ?_
   | refine LeO.bind ?_ (fun _ => ?_)
set_option maxHeartbeats 8000000 in
set_option maxRecDepth 100000 in
theorem spec_DropEntry.calls (k : Nat) (A0 : Option Addr) (c0 : Nat) (l0 : List (S79)) (a1 : ByteArray) (r1 : List (S79)) (r2 : Bool) (w : World) (hr0 : Kd.C k79 w A0 l0.length l0) (hc0 : l0.length ≤ c0) (h : spec_DropEntry.f k l0 a1 = some (r1, r2)) :
  Calls Try.prog 45 #[.slice A0 l0.length c0, .string a1] w fun e w' => ∃ v0_ : Value, e = .returned (.tuple #[v0_, .bool r2]) ∧ Kd.R k79 79 w' w.heap.size (fun _ => True) v0_ r1 ∧ Below w.heap.size w w' := by
 have hu79 := Try.underlying79
 have HR0 := Aside0.mk hr0
 have HC0 := Aside0.mk hc0
 clear hr0 hc0
 have HB := Aside0.mk (Below.refl w.heap.size w)
 have H : (spec_DropEntry.l0 k l0 a1 (([] : List (S79))) 0) = some (r1, r2) := h
 clear h
 obtain ⟨y248, hy248⟩ : ∃ y_ : List (S79), y_ = (([] : List (S79))) := ⟨_, rfl⟩
 replace H : (spec_DropEntry.l0 k l0 a1 y248 0) = some (r1, r2) := hq_ hy248 H
 have Ny248 := Aside0.mk hy248
 clear hy248
 have H' := Aside0.mk H
 clear H
 go_enter Try.func45, Try.ntmps45
 go_wp2_with (first | ((with_reducible refine gate_dst (N := 8) rfl ?_); refine Kd.R_lit k79 _ 79 ?hg (N := 8) ?hd (xs := ([] : List (S79))) (inner := []) (ok := fun _ => True) (okp := fun _ => True) ?hr ?hp (fun _ hk => hk) trivial (Below.refl _ _) (Nat.le_refl _) (by simp) ?_; (case hd => rfl); (case hg => rfl); (case hr => first | (go_simp; done) | (go_simp; rfl)); (case hp => exact (Reps.none _ _)); intro v249 w3 ho4 hb hg_ hnew_; clear hg_ hnew_; (first | rw [← Ny248.out] at ho4 | (simp only [Int.reduceToNat] at ho4; rw [← Ny248.out] at ho4)); have HO250 := Aside0.mk (Kd.R_lower ho4 (below_size hb_)); replace HB := Aside0.mk (below_step hb_ hb); clear hb ho4))
 go_loopg [6, 7] k (fun kq v6 v7 w' => ∃ (x6_1 : List (S79)) (x7_1 : Int), v7 = .int .i64 x7_1 ∧ Aside0 (spec_DropEntry.l0 kq l0 a1 x6_1 x7_1 = some (r1, r2)) ∧ Aside0 (kq ≤ k) ∧ Aside0 (Kd.R k79 79 w' w.heap.size (fun _ => True) v6 x6_1) ∧ Aside0 (Below w.heap.size w w'))
 case atStart => exact ⟨(y248), (0), rs_, H', ⟨Nat.le_refl _⟩, ⟨by (with_reducible repeat (first | apply Kd.R_alloc | apply Kd.R_drewN | apply Kd.R_drew)); exact HO250.out⟩, ⟨hb_⟩⟩
 case round =>
  clear H'
  try clear p2
  try clear c4
  obtain ⟨x6_1, x7_1, rfl, HA, HK1, HO_6, HB⟩ := hrel
  cases gk with
  | zero => exact absurd HA.out (by simp [spec_DropEntry.l0])
  | succ k1 =>
   have H := HA.out
   clear HA
   simp only [spec_DropEntry.l0] at H
   have HC5 := Aside0.mk H
   clear H
   go_upto_region 3 with (fail)
   go_cut [16] (fun v16 wc => ∃ (kq : Nat) (x16_4 : Bool), v16 = .bool x16_4 ∧ Aside0 (spec_DropEntry.j1 kq l0 a1 x6_1 x7_1 x16_4 = some (r1, r2)) ∧ Aside0 (kq ≤ k1) ∧ Aside0 (Kd.R k79 79 wc w.heap.size (fun _ => True) u6 x6_1) ∧ Aside0 (Below w.heap.size w wc))
   case first =>
    have H := HC5.out
    clear HC5
    by_cases c6 : x7_1 < (l0.length : Int)
    ·rw [if_pos c6] at H
     have c6b0 : decide (x7_1 < (l0.length : Int)) = true := decide_eq_true c6
     clear c6
     (first | rw [c6b0] | (simp only [i64_w, i32_w]; rw [c6b0]) | skip)
     replace H := Option.bind_eq_some_iff.mp H
     obtain ⟨t251, A70, H⟩ := H
     replace H : (spec_DropEntry.j1 k1 l0 a1 x6_1 x7_1 t251) = some (r1, r2) := H
     have A7 := Aside0.mk A70
     clear A70
     have H' := Aside0.mk H
     clear H
     go_wp2_with (first | (go_at_call 43; (with_reducible refine (spec_EntriesValid.calls k1 _ _ l0 t251 _ ?side1 ?side2 A7.out).mono ?_); (case side1 => exact kC_ (Kd.C_below HR0.out HB.out)); (case side2 => exact HC0.out); rintro e w8 ⟨rfl, hb⟩; replace HO_6 := Aside0.mk (Kd.R_below (kR_ HO_6.out) hb); replace HB := Aside0.mk (below_step hb_ hb); (try clear hb)))
     go_meet
     case rel => exact ⟨_, (t251), rs_, H', ⟨by have := HK1.out; first | omega | exact Nat.le_refl _⟩, ⟨by (with_reducible repeat (first | apply Kd.R_alloc | apply Kd.R_drewN | apply Kd.R_drew)); exact HO_6.out⟩, ⟨hb_⟩⟩
    ·rw [if_neg c6] at H
     have c6b0 : decide (x7_1 < (l0.length : Int)) = false := decide_eq_false c6
     clear c6
     (first | rw [c6b0] | (simp only [i64_w, i32_w]; rw [c6b0]) | skip)
     have H' := Aside0.mk H
     clear H
     go_wp2
     go_meet
     case rel => exact ⟨_, (false), rs_, H', ⟨by have := HK1.out; first | omega | exact Nat.le_refl _⟩, ⟨by (with_reducible repeat (first | apply Kd.R_alloc | apply Kd.R_drewN | apply Kd.R_drew)); exact HO_6.out⟩, ⟨hb_⟩⟩
   case rest =>
    clear HC5
    try clear p2
    try clear c4
    try clear c6
    try clear c6b0
    try clear p2
    obtain ⟨kq, x16_4, rfl, HA, HJ4, HO_6, HB⟩ := hcut
    cases kq with
    | zero => exact absurd HA.out (by simp [spec_DropEntry.j1])
    | succ kj4 =>
     have H := HA.out
     clear HA
     simp only [spec_DropEntry.j1] at H
     by_cases c9 : x16_4 = true
     ·subst c9
      have H1 : (if 0 ≤ x7_1 then (if x7_1 < (l0.length : Int) then (if ((rd_T79 l0 x7_1).f0).toList = a1.toList then (spec_DropEntry.l0 kj4 l0 a1 x6_1 (wrap64 (x7_1 + 1))) else (if x6_1.length < 5864062014805 then (spec_DropEntry.l0 kj4 l0 a1 (x6_1 ++ [(⟨(rd_T79 l0 x7_1).f0, (rd_T79 l0 x7_1).f1⟩ : S79)]) (wrap64 (x7_1 + 1))) else (none))) else (none)) else (none)) = some (r1, r2) := by rw [if_pos rfl] at H; exact H
      clear H
      have H := H1
      clear H1
      by_cases c10 : 0 ≤ x7_1; rotate_left
      ·rw [if_neg c10] at H; exact absurd H (by simp)
      rw [if_pos c10] at H
      have c10b0 : decide (0 ≤ x7_1) = true := decide_eq_true c10
      clear c10
      by_cases c11 : x7_1 < (l0.length : Int); rotate_left
      ·rw [if_neg c11] at H; exact absurd H (by simp)
      rw [if_pos c11] at H
      have c11b0 : decide (x7_1 < (l0.length : Int)) = true := decide_eq_true c11
      clear c11
      by_cases c12 : ((rd_T79 l0 x7_1).f0).toList = a1.toList
      ·rw [if_pos c12] at H
       have c12b0 : (((rd_T79 l0 x7_1).f0).toList == a1.toList) = true := beq_iff_eq.mpr c12
       have c12b1 : (((rd_T79 l0 x7_1).f0).toList != a1.toList) = false := bne_eq_false_iff_eq.mpr c12
       clear c12
       have H' := Aside0.mk H
       clear H
       have p252 : 0 ≤ (x7_1 : Int) := dt_
       have q252 : x7_1 < (l0.length : Int) := dt_
       obtain ⟨ad252, e252, hx252_0, hx252_1⟩ := at_T79 HR0.out x7_1 p252 q252
       cases e252
       replace hx252_0 := cb_ HB.out hx252_0
       replace hx252_1 := cb_ HB.out hx252_1
       replace p252 := eq_true p252
       replace q252 := eq_true q252
       go_wp2
       go_roundg kj4
       case measure => have := HK1.out; have := HJ4.out; omega
       case rel => exact ⟨(x6_1), (wrap64 (x7_1 + 1)), rs_, H', ⟨by have := HK1.out; have := HJ4.out; omega⟩, ⟨by (with_reducible repeat (first | apply Kd.R_alloc | apply Kd.R_drewN | apply Kd.R_drew)); exact HO_6.out⟩, ⟨hb_⟩⟩
      ·rw [if_neg c12] at H
       have c12b0 : (((rd_T79 l0 x7_1).f0).toList == a1.toList) = false := beq_eq_false_iff_ne.mpr c12
       have c12b1 : (((rd_T79 l0 x7_1).f0).toList != a1.toList) = true := bne_iff_ne.mpr c12
       by_cases c13 : x6_1.length < 5864062014805; rotate_left
       ·rw [if_neg c13] at H; exact absurd H (by simp)
       rw [if_pos c13] at H
       have LMc13 := Aside0.mk c13
       clear c13
       obtain ⟨y254, hy254⟩ : ∃ y_ : List (S79), y_ = (x6_1 ++ [(⟨(rd_T79 l0 x7_1).f0, (rd_T79 l0 x7_1).f1⟩ : S79)]) := ⟨_, rfl⟩
       replace H : (spec_DropEntry.l0 kj4 l0 a1 y254 (wrap64 (x7_1 + 1))) = some (r1, r2) := hq_ hy254 H
       have Ny254 := Aside0.mk hy254
       clear hy254
       have H' := Aside0.mk H
       clear H
       have p252 : 0 ≤ (x7_1 : Int) := dt_
       have q252 : x7_1 < (l0.length : Int) := dt_
       obtain ⟨ad252, e252, hx252_0, hx252_1⟩ := at_T79 HR0.out x7_1 p252 q252
       cases e252
       replace hx252_0 := cb_ HB.out hx252_0
       replace hx252_1 := cb_ HB.out hx252_1
       replace p252 := eq_true p252
       replace q252 := eq_true q252
       have p253 : 0 ≤ (x7_1 : Int) := dt_
       have q253 : x7_1 < (l0.length : Int) := dt_
       obtain ⟨ad253, e253, hx253_0, hx253_1⟩ := at_T79 HR0.out x7_1 p253 q253
       obtain rfl : ad252 = ad253 := (by injection e253)
       replace hx253_0 := cb_ HB.out hx253_0
       replace hx253_1 := cb_ HB.out hx253_1
       replace p253 := eq_true p253
       replace q253 := eq_true q253
       go_wp2_with (first | ((with_reducible refine gate_builtin (b := .append) (xs := #[.tmp 26, .tmp 31]) rfl ?_); at_builtin; refine Kd.R_append k79 (w0 := w) w.heap.size rfl (.tmp 26) (.tmp 31) 67 79 (.agg #[(.string ⟨#[]⟩), (.int .i64 0)]) 24 rfl Try.underlying67 info79 rfl (by decide) (by omega) u6 x6_1 (⟨(rd_T79 l0 x7_1).f0, (rd_T79 l0 x7_1).f1⟩ : S79) [.string ((rd_T79 l0 x7_1).f0), .int .i64 ((rd_T79 l0 x7_1).f1)] (fun _ => True) (fun _ => False) rfl rfl ?aP (fun _ hk => hk.elim) ?aF ?aO ?aB ?aS ?aL ?_; (case aP => exact k79_mkM _ _ _ (⟨(rd_T79 l0 x7_1).f0, (rd_T79 l0 x7_1).f1⟩ : S79)); (case aB => exact hb_); (case aF => exact (fun _ _ => trivial)); (case aO => exact (kR_ HO_6.out)); (case aS => exact (below_size hb_)); (case aL => have := LMc13.out; omega); intro v255 w14 ho hb hg hat; rw [← Ny254.out] at ho; have n0_ := Aside0.mk (hb); have n1_ := Aside0.mk (ho); clear HB; clear HO_6; have HB := n0_; have HO256 := n1_; clear n0_ n1_; clear ho hb hg hat))
       go_roundg kj4
       case measure => have := HK1.out; have := HJ4.out; omega
       case rel => exact ⟨(y254), (wrap64 (x7_1 + 1)), rs_, H', ⟨by have := HK1.out; have := HJ4.out; omega⟩, ⟨by (with_reducible repeat (first | apply Kd.R_alloc | apply Kd.R_drewN | apply Kd.R_drew)); exact HO256.out⟩, ⟨hb_⟩⟩
     ·replace c9 := Bool.eq_false_iff.mpr c9
      subst c9
      have H1 : ((spec_EntriesValid.f kj4 l0).bind fun t257 => (if t257 = true then (some (x6_1, decide ((x6_1.length : Int) < (l0.length : Int)))) else (some (x6_1, false)))) = some (r1, r2) := by rw [if_neg (show ¬ (false = true) by decide)] at H; exact H
      clear H
      have H := H1
      clear H1
      replace H := Option.bind_eq_some_iff.mp H
      obtain ⟨t257, A150, H⟩ := H
      replace H : (if t257 = true then (some (x6_1, decide ((x6_1.length : Int) < (l0.length : Int)))) else (some (x6_1, false))) = some (r1, r2) := H
      have A15 := Aside0.mk A150
      clear A150
      by_cases c16 : t257 = true
      ·subst c16
       have H1 : (some (x6_1, decide ((x6_1.length : Int) < (l0.length : Int)))) = some (r1, r2) := by rw [if_pos rfl] at H; exact H
       clear H
       have H := H1
       clear H1
       simp only [Option.some.injEq, Prod.mk.injEq] at H
       obtain ⟨rfl, rfl⟩ := H
       go_wp2_with (first | ((with_reducible refine gate_callee (f := 43) rfl ?_); refine goesL_ (some 35) rfl rfl Try.func43 (by kernel_rfl) rfl #[.slice A0 l0.length c0] rfl sl_ ?_; (with_reducible refine (spec_EntriesValid.calls kj4 _ _ l0 true _ ?side1 ?side2 A15.out).mono ?_); (case side1 => exact kC_ (Kd.C_below HR0.out HB.out)); (case side2 => exact HC0.out); rintro e w17 ⟨rfl, hb⟩; refine ⟨_, rfl, ?_⟩; replace HO_6 := Aside0.mk (Kd.R_below (kR_ HO_6.out) hb); replace HB := Aside0.mk (below_step hb_ hb); (try clear hb); obtain ⟨Ao18, co18, eo18⟩ := Kd.R_slice HO_6.out; subst eo18))
       go_ret2
       exact ⟨_, er_, by (with_reducible repeat (first | apply Kd.R_alloc | apply Kd.R_drewN | apply Kd.R_drew)); exact HO_6.out, hb_⟩
      ·replace c16 := Bool.eq_false_iff.mpr c16
       subst c16
       have H1 : (some (x6_1, false)) = some (r1, r2) := by rw [if_neg (show ¬ (false = true) by decide)] at H; exact H
       clear H
       have H := H1
       clear H1
       simp only [Option.some.injEq, Prod.mk.injEq] at H
       obtain ⟨rfl, rfl⟩ := H
       go_wp2_with (first | ((with_reducible refine gate_callee (f := 43) rfl ?_); refine goesL_ (some 35) rfl rfl Try.func43 (by kernel_rfl) rfl #[.slice A0 l0.length c0] rfl sl_ ?_; (with_reducible refine (spec_EntriesValid.calls kj4 _ _ l0 false _ ?side1 ?side2 A15.out).mono ?_); (case side1 => exact kC_ (Kd.C_below HR0.out HB.out)); (case side2 => exact HC0.out); rintro e w19 ⟨rfl, hb⟩; refine ⟨_, rfl, ?_⟩; replace HO_6 := Aside0.mk (Kd.R_below (kR_ HO_6.out) hb); replace HB := Aside0.mk (below_step hb_ hb); (try clear hb)))
       go_ret2
       exact ⟨_, er_, by (with_reducible repeat (first | apply Kd.R_alloc | apply Kd.R_drewN | apply Kd.R_drew)); exact HO_6.out, hb_⟩
end Go.Proofs.Ytjgbidklkhohfaa.P
