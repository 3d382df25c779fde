-- The functions of the seat as plain Lean functions, made by the kit's print.py for all laws at once. Not trusted: Lean checks it.
import Derived.Test.YtjgbidklkhohfaaGreatDoorPx0
import Derived.Test.YtjgbidklkhohfaaGreatDoorPx3
import Derived.Test.YtjgbidklkhohfaaGreatDoorPx5
import Derived.Test.YtjgbidklkhohfaaGreatDoorPx9
import Derived.Test.YtjgbidklkhohfaaGreatDoorPx14
namespace Go.Proofs.YtjgbidklkhohfaaGreatDoor.P
open Go.RowKit Go.Proofs.YtjgbidklkhohfaaGreatDoorW.PrintWords Go.Proofs.YtjgbidklkhohfaaGreatDoorW.PrintLast Go.Proofs.YtjgbidklkhohfaaGreatDoorW.PrintMore
attribute [local go_sem] max2_int min2_int max_two min_two max_three min_three max_four min_four   -- for this text's walks alone
set_option linter.unusedVariables false
set_option linter.unusedSimpArgs false
/-! ### laws_markChangeS: function 26 -/
def laws_markChangeS.l0 : Nat → List (S62) → Int → Int → Option (Int × (List (S62)))
 | 0, _, _, _ => none
 | k + 1, x0, x1, x5 => if x5 < (x0.length : Int) then ((laws_markText.f k x1).bind fun t688 => (if 0 ≤ x5 then ((some (x0.set (x5 : Int).toNat (⟨t688, (rd_T62 x0 x5).f1⟩ : S62) : List (S62))).bind fun y689 => (laws_markChangeS.l0 k (y689.set (x5 : Int).toNat (⟨(rd_T62 y689 x5).f0, wrap64 (x1 + 1)⟩ : S62)) (wrap64 ((wrap64 (x1 + 1)) + 1)) (wrap64 (x5 + 1)))) else (none))) else (some (x1, x0))
def laws_markChangeS.f (k : Nat) (l0 : List (S62)) (a1 : Int) : Option (Int × (List (S62))) := laws_markChangeS.l0 k l0 a1 0
theorem laws_markChangeS.mono_l : ∀ k, (∀ y0 y1 y2, LeO (laws_markChangeS.l0 k y0 y1 y2) (laws_markChangeS.l0 (k + 1) y0 y1 y2))
 | 0 => fun _ _ _ r h => by simp [laws_markChangeS.l0] at h
 | k + 1 => by
  have ih0 := laws_markChangeS.mono_l k
  ·intro y0 y1 y2
   unfold laws_markChangeS.l0
   repeat' first
   | (with_reducible exact ih0 _ _ _)
   | (with_reducible exact laws_markText.mono _ _)
   | (with_reducible exact LeO.refl _)
   | (with_reducible exact LeO.none _)
   | (with_reducible refine LeO.ite ?_ ?_)
   | (with_reducible refine LeO.bind ?_ (fun _ => ?_))
   | exact ih0 _ _ _
   | exact laws_markText.mono _ _
   | exact LeO.none _
   | refine LeO.ite ?_ ?_
   | refine LeO.bind ?_ (fun _ => ?_)
theorem laws_markChangeS.mono : ∀ a0 a1 k, LeO (laws_markChangeS.f k a0 a1) (laws_markChangeS.f (k + 1) a0 a1) := by
 intro a0 a1 k
 have ih0 := laws_markChangeS.mono_l k
 unfold laws_markChangeS.f
 repeat' first
   | (with_reducible exact ih0 _ _ _)
   | (with_reducible exact laws_markText.mono _ _)
   | (with_reducible exact LeO.refl _)
   | (with_reducible exact LeO.none _)
   | (with_reducible refine LeO.ite ?_ ?_)
   | (with_reducible refine LeO.bind ?_ (fun _ => ?_))
   | exact ih0 _ _ _
   | exact laws_markText.mono _ _
   | exact LeO.none _
   | refine LeO.ite ?_ ?_
   | refine LeO.bind ?_ (fun _ => ?_)
set_option maxHeartbeats 8000000 in
set_option maxRecDepth 100000 in
theorem laws_markChangeS.calls (k : Nat) (P0_ : Nat → Prop) (u9000_ : Value) (l0 : List (S62)) (a1 : Int) (r1 : Int) (r2 : List (S62)) (w0 w : World) (hB : Below w0.heap.size w0 w) (ho0 : Kd.R k62 62 w w0.heap.size P0_ u9000_ l0) (h : laws_markChangeS.f k l0 a1 = some (r1, r2)) :
  Calls Tryz.prog 26 #[u9000_, .int .i64 a1] w fun e w' => e = .returned (.int .i64 r1) ∧ Kd.R k62 62 w' w0.heap.size (fun k_ => (P0_ k_ ∨ w.heap.size ≤ k_)) u9000_ r2 ∧ Below w0.heap.size w0 w' ∧ Kept w w' (fun k_ => P0_ k_) := by
 have HO0 := Aside0.mk (show Kd.R k62 62 w w0.heap.size (fun k_ => (P0_ k_ ∨ w.heap.size ≤ k_)) u9000_ l0 from Kd.R_mono ho0 (fun k_ hk => (.inl hk)))
 have HK := Aside0.mk (Kept.refl w (fun k_ => P0_ k_))
 have HW0 := Aside0.mk hB.size
 have HB := Aside0.mk hB
 clear hB
 have H : (laws_markChangeS.l0 k l0 a1 0) = some (r1, r2) := h
 clear h
 have H' := Aside0.mk H
 clear H
 go_enter Tryz.func26, Tryz.ntmps26
 go_wp2
 go_loopg [1, 5] k (fun kq v1 v5 w' => ∃ (x0_1 : List (S62)) (x1_1 : Int) (x5_1 : Int), v1 = .int .i64 x1_1 ∧ v5 = .int .i64 x5_1 ∧ Aside0 (laws_markChangeS.l0 kq x0_1 x1_1 x5_1 = some (r1, r2)) ∧ Aside0 (kq ≤ k) ∧ Aside0 (Kd.R k62 62 w' w0.heap.size (fun k_ => (P0_ k_ ∨ w.heap.size ≤ k_)) u9000_ x0_1) ∧ Aside0 (Kept w w' (fun k_ => P0_ k_)) ∧ Aside0 (Below w0.heap.size w0 w'))
 case atStart => exact ⟨(l0), (a1), (0), (by first | rfl | (simp; done) | (simp [*]; done)), (by first | rfl | (simp; done) | (simp [*]; done)), H', ⟨Nat.le_refl _⟩, ⟨by (with_reducible repeat (first | apply Kd.R_alloc | apply Kd.R_drewN | apply Kd.R_drew)); exact HO0.out⟩, ⟨by repeat (first | (with_reducible first | exact HK.out | apply Kept.alloc | apply Kept.drewN | apply Kept.drew) | exact HK.out)⟩, ⟨hb_⟩⟩
 case round =>
  clear H'
  try clear c2
  try clear p2
  obtain ⟨x0_1, x1_1, x5_1, rfl, rfl, HA, HK1, HO_0, HK, HB⟩ := hrel
  cases gk with
  | zero => exact absurd HA.out (by simp [laws_markChangeS.l0])
  | succ k1 =>
   have H := HA.out
   clear HA
   simp only [laws_markChangeS.l0] at H
   by_cases c3 : x5_1 < (x0_1.length : Int)
   ·rw [if_pos c3] at H
    have c3b0 : decide (x5_1 < (x0_1.length : Int)) = true := decide_eq_true c3
    clear c3
    replace H := Option.bind_eq_some_iff.mp H
    obtain ⟨t688, A40, H⟩ := H
    replace H : (if 0 ≤ x5_1 then ((some (x0_1.set (x5_1 : Int).toNat (⟨t688, (rd_T62 x0_1 x5_1).f1⟩ : S62) : List (S62))).bind fun y689 => (laws_markChangeS.l0 k1 (y689.set (x5_1 : Int).toNat (⟨(rd_T62 y689 x5_1).f0, wrap64 (x1_1 + 1)⟩ : S62)) (wrap64 ((wrap64 (x1_1 + 1)) + 1)) (wrap64 (x5_1 + 1)))) else (none)) = some (r1, r2) := H
    have A4 := Aside0.mk A40
    clear A40
    by_cases c5 : 0 ≤ x5_1
    ·rw [if_pos c5] at H
     have c5b0 : decide (0 ≤ x5_1) = true := decide_eq_true c5
     clear c5
     obtain ⟨y689, hy689⟩ : ∃ y_ : List (S62), y_ = (x0_1.set (x5_1 : Int).toNat (⟨t688, (rd_T62 x0_1 x5_1).f1⟩ : S62)) := ⟨_, rfl⟩
     replace H : (laws_markChangeS.l0 k1 (y689.set (x5_1 : Int).toNat (⟨(rd_T62 y689 x5_1).f0, wrap64 (x1_1 + 1)⟩ : S62)) (wrap64 ((wrap64 (x1_1 + 1)) + 1)) (wrap64 (x5_1 + 1))) = some (r1, r2) := by first | (rw [hy689]; with_reducible exact H) | (have H2_ := (Option.bind_some _ _).symm.trans H; rw [hy689]; with_reducible exact H2_) | (have H2_ := (Option.bind_some _ _).symm.trans H; with_reducible exact H2_) | with_reducible exact H | (rw [hy689]; exact H) | exact H
     have Ny689 := Aside0.mk hy689
     clear hy689
     obtain ⟨y690, hy690⟩ : ∃ y_ : List (S62), y_ = (y689.set (x5_1 : Int).toNat (⟨(rd_T62 y689 x5_1).f0, wrap64 (x1_1 + 1)⟩ : S62)) := ⟨_, rfl⟩
     replace H : (laws_markChangeS.l0 k1 y690 (wrap64 ((wrap64 (x1_1 + 1)) + 1)) (wrap64 (x5_1 + 1))) = some (r1, r2) := by first | (rw [hy690]; with_reducible exact H) | (have H2_ := (Option.bind_some _ _).symm.trans H; rw [hy690]; with_reducible exact H2_) | (have H2_ := (Option.bind_some _ _).symm.trans H; with_reducible exact H2_) | with_reducible exact H | (rw [hy690]; exact H) | exact H
     have Ny690 := Aside0.mk hy690
     clear hy690
     have H' := Aside0.mk H
     clear H
     obtain ⟨Ao8, co8, eo8⟩ := Kd.R_slice HO_0.out
     subst eo8
     go_wp2_with (first | ((with_reducible refine gate_callee (f := 35) rfl ?_); refine goesL_ (some 15) rfl rfl Tryz.func35 (by kernel_rfl) rfl #[.int .i64 x1_1] rfl sl_ ?_; (with_reducible refine (laws_markText.calls k1 x1_1 t688 _ A4.out).mono ?_); rintro e w9 ⟨rfl, hb⟩; refine ⟨_, rfl, ?_⟩; replace HO_0 := Aside0.mk (Kd.R_below (kR_ HO_0.out) hb); replace HK := Aside0.mk (Kept.below (S := (fun k_ => P0_ k_)) (by repeat (first | (with_reducible first | exact HK.out | apply Kept.alloc | apply Kept.drewN | apply Kept.drew) | exact HK.out)) hb); replace HB := Aside0.mk (below_step hb_ hb); (try clear hb); (try clear hk); have p6 : 0 ≤ (x5_1 : Int) := of_decide_eq_true ma_; have q6 : (x5_1 : Int) < ((x0_1.length : Int) : Int) := of_decide_eq_true ma_; obtain ⟨go6, co6, eo6, gb6, gl6, cl6, HG6⟩ := Kd.R_form HO_0.out (by omega); (first | cases eo6 | (injection eo6 with ea_ en_ ec_; (first | subst ea_ | (injection ea_ with ea_; subst ea_)); subst ec_; clear en_)); have GB6 := Aside0.mk gb6; have GG6 := Aside0.mk HG6; clear gb6 gl6 HG6; have HMgo6 := Aside0.mk (show (P0_ go6 ∨ w.heap.size ≤ go6) from (HO_0.out.1 _ rfl)); obtain ⟨ce6, hcl6, hM6, hcc6, hfr6⟩ := Kd.R_elem HO_0.out z62 (x5_1 : Int) p6 q6; obtain rfl := k62_openM hM6; have hx6_0 : w9.cell? ⟨go6, (x5_1 : Int).toNat * 2, none⟩ = some (.string ((rd_T62 x0_1 x5_1).f0)) := hcc6 0 _ rfl; have hx6_1 : w9.cell? ⟨go6, (x5_1 : Int).toNat * 2 + 1, none⟩ = some (.int .i64 ((rd_T62 x0_1 x5_1).f1)) := hcc6 1 _ rfl; have hf6_0 : w9.frozen? ⟨go6, (x5_1 : Int).toNat * 2, none⟩ = false := hfr6 0; have hf6_1 : w9.frozen? ⟨go6, (x5_1 : Int).toNat * 2 + 1, none⟩ = false := hfr6 1; clear hcl6 hcc6 hfr6 hM6; replace p6 := eq_true p6; replace q6 := eq_true q6; have HX10 := Aside0.mk (show Kd.R k62 62 w9 w0.heap.size (fun k_ => (P0_ k_ ∨ w.heap.size ≤ k_)) (.slice (some ⟨go6, 0, none⟩) x0_1.length co8) x0_1 from (kR_ HO_0.out)); obtain ⟨ce10, hcl10, hM10, hcc10, hfr10⟩ := Kd.R_elem HX10.out z62 (x5_1 : Int) (of_decide_eq_true ma_) (by have h_ : (x5_1 : Int) < ((x0_1.length : Int) : Int) := of_decide_eq_true ma_; first | exact h_ | (have e_ := (Kd.R_reads' HO_0.out).1; omega) | simpa using h_); obtain rfl := k62_openM hM10; have HP10 := Kd.R_seg HX10.out (x5_1 : Int) (of_decide_eq_true ma_) (by have h_ : (x5_1 : Int) < ((x0_1.length : Int) : Int) := of_decide_eq_true ma_; first | exact h_ | (have e_ := (Kd.R_reads' HO_0.out).1; omega) | simpa using h_) (seg := [.string t688]) (j := 0) hcl10 hcc10 (show 1 ≤ 2 from by decide) (x' := (⟨t688, (rd_T62 x0_1 x5_1).f1⟩ : S62)) (k62_mkM _ _ _ (⟨t688, (rd_T62 x0_1 x5_1).f1⟩ : S62) ) (fun _ hk => hk); have hx10_0 := hcc10 0 _ rfl; (try simp only [show (k62).sz = 2 from rfl, Nat.mul_one, Nat.add_zero] at hx10_0); have hf10_0 := hfr10 0; (try simp only [show (k62).sz = 2 from rfl, Nat.mul_one, Nat.add_zero] at hf10_0); clear hcl10 hcc10 hfr10 hM10) | ((with_reducible refine gate_store (t := 9) (p := 17) rfl ?_); refine store_event (t := 9) (p := 17) (v := ?vo_w11) (w1 := (w9.setCell ⟨go6, (x5_1 : Int).toNat * 2, none⟩ (.string t688))) ?hg ?ho ?hn ?hr ?_; (case ho => rfl); (case hg => rfl); (case hn => rfl); (case hr => first | (go_simp; done) | (go_simp; rfl)); intro w11 hw; have hg : w9.grownBy w11 (some go6) := (by rw [hw]; exact HP10.2); have hp_ : Kd.R k62 62 w11 w0.heap.size (fun k_ => (P0_ k_ ∨ w.heap.size ≤ k_)) (.slice (some ⟨go6, 0, none⟩) x0_1.length co8) y689 := (by rw [hw, Ny689.out]; exact HP10.1); clear HP10; have n0_ := Aside0.mk (hp_); have n1_ := Aside0.mk ((by rw [hw]; exact below_set (HB.out) GB6.out : Below w0.heap.size w0 w11)); have n2_ := Aside0.mk (Kept.of_grown (S := (fun k_ => P0_ k_)) hg (by repeat (first | (with_reducible first | exact HK.out | apply Kept.alloc | apply Kept.drewN | apply Kept.drew) | exact HK.out)) (fun k_ e_ => (HO_0.out.1 k_ e_))); clear HO_0; clear HB; clear HK; have HO_0 := n0_; have HB := n1_; have HK := n2_; clear n0_ n1_ n2_; clear hg hw hp_; have p7 : 0 ≤ (x5_1 : Int) := of_decide_eq_true ma_; have q7 : (x5_1 : Int) < ((x0_1.length : Int) : Int) := of_decide_eq_true ma_; obtain ⟨ce7, hcl7, hM7, hcc7, hfr7⟩ := Kd.R_elem HO_0.out z62 (x5_1 : Int) p7 q7; obtain rfl := k62_openM hM7; have hx7_0 : w11.cell? ⟨go6, (x5_1 : Int).toNat * 2, none⟩ = some (.string ((rd_T62 y689 x5_1).f0)) := hcc7 0 _ rfl; have hx7_1 : w11.cell? ⟨go6, (x5_1 : Int).toNat * 2 + 1, none⟩ = some (.int .i64 ((rd_T62 y689 x5_1).f1)) := hcc7 1 _ rfl; have hf7_0 : w11.frozen? ⟨go6, (x5_1 : Int).toNat * 2, none⟩ = false := hfr7 0; have hf7_1 : w11.frozen? ⟨go6, (x5_1 : Int).toNat * 2 + 1, none⟩ = false := hfr7 1; clear hcl7 hcc7 hfr7 hM7; replace p7 := eq_true p7; replace q7 := eq_true q7; have HX12 := Aside0.mk (show Kd.R k62 62 w11 w0.heap.size (fun k_ => (P0_ k_ ∨ w.heap.size ≤ k_)) (.slice (some ⟨go6, 0, none⟩) x0_1.length co8) y689 from (kR_ HO_0.out)); obtain ⟨ce12, hcl12, hM12, hcc12, hfr12⟩ := Kd.R_elem HX12.out z62 (x5_1 : Int) (of_decide_eq_true ma_) (by have h_ : (x5_1 : Int) < ((x0_1.length : Int) : Int) := of_decide_eq_true ma_; first | exact h_ | (have e_ := (Kd.R_reads' HO_0.out).1; omega) | simpa using h_); obtain rfl := k62_openM hM12; have HP12 := Kd.R_seg HX12.out (x5_1 : Int) (of_decide_eq_true ma_) (by have h_ : (x5_1 : Int) < ((x0_1.length : Int) : Int) := of_decide_eq_true ma_; first | exact h_ | (have e_ := (Kd.R_reads' HO_0.out).1; omega) | simpa using h_) (seg := [.int .i64 (wrap64 (x1_1 + 1))]) (j := 1) hcl12 hcc12 (show 2 ≤ 2 from by decide) (x' := (⟨(rd_T62 y689 x5_1).f0, wrap64 (x1_1 + 1)⟩ : S62)) (k62_mkM _ _ _ (⟨(rd_T62 y689 x5_1).f0, wrap64 (x1_1 + 1)⟩ : S62) ) (fun _ hk => hk); have hx12_1 := hcc12 1 _ rfl; (try simp only [show (k62).sz = 2 from rfl, Nat.mul_one, Nat.add_zero] at hx12_1); have hf12_1 := hfr12 1; (try simp only [show (k62).sz = 2 from rfl, Nat.mul_one, Nat.add_zero] at hf12_1); clear hcl12 hcc12 hfr12 hM12) | ((with_reducible refine gate_store (t := 3) (p := 24) rfl ?_); refine store_event (t := 3) (p := 24) (v := ?vo_w13) (w1 := (w11.setCell ⟨go6, (x5_1 : Int).toNat * 2 + 1, none⟩ (.int .i64 (wrap64 (x1_1 + 1))))) ?hg ?ho ?hn ?hr ?_; (case ho => rfl); (case hg => rfl); (case hn => rfl); (case hr => first | (go_simp; done) | (go_simp; rfl)); intro w13 hw; have hg : w11.grownBy w13 (some go6) := (by rw [hw]; exact HP12.2); have hp_ : Kd.R k62 62 w13 w0.heap.size (fun k_ => (P0_ k_ ∨ w.heap.size ≤ k_)) (.slice (some ⟨go6, 0, none⟩) x0_1.length co8) y690 := (by rw [hw, Ny690.out]; exact HP12.1); clear HP12; have n0_ := Aside0.mk (hp_); have n1_ := Aside0.mk ((by rw [hw]; exact below_set (HB.out) GB6.out : Below w0.heap.size w0 w13)); have n2_ := Aside0.mk (Kept.of_grown (S := (fun k_ => P0_ k_)) hg (by repeat (first | (with_reducible first | exact HK.out | apply Kept.alloc | apply Kept.drewN | apply Kept.drew) | exact HK.out)) (fun k_ e_ => (HO_0.out.1 k_ e_))); clear HO_0; clear HB; clear HK; have HO_0 := n0_; have HB := n1_; have HK := n2_; clear n0_ n1_ n2_; clear hg hw hp_))
     go_roundg k1
     case measure => have := HK1.out; omega
     case rel => exact ⟨(y690), (wrap64 ((wrap64 (x1_1 + 1)) + 1)), (wrap64 (x5_1 + 1)), (by first | rfl | (simp; done) | (simp [*]; done)), (by first | rfl | (simp; done) | (simp [*]; done)), H', ⟨by have := HK1.out; omega⟩, ⟨by (with_reducible repeat (first | apply Kd.R_alloc | apply Kd.R_drewN | apply Kd.R_drew)); exact HO_0.out⟩, ⟨by repeat (first | (with_reducible first | exact HK.out | apply Kept.alloc | apply Kept.drewN | apply Kept.drew) | exact HK.out)⟩, ⟨hb_⟩⟩
    ·rw [if_neg c5] at H
     exact absurd H (by simp)
   ·rw [if_neg c3] at H
    have c3b0 : decide (x5_1 < (x0_1.length : Int)) = false := decide_eq_false c3
    clear c3
    simp only [Option.some.injEq, Prod.mk.injEq] at H
    obtain ⟨rfl, rfl⟩ := H
    obtain ⟨Ao14, co14, eo14⟩ := Kd.R_slice HO_0.out
    subst eo14
    go_wp2
    go_ret
    exact ⟨er_, by (with_reducible repeat (first | apply Kd.R_alloc | apply Kd.R_drewN | apply Kd.R_drew)); exact HO_0.out, hb_, by repeat (first | (with_reducible first | exact HK.out | apply Kept.alloc | apply Kept.drewN | apply Kept.drew) | exact HK.out)⟩
/-! ### laws_heldChangeS: function 27 -/
def laws_heldChangeS.l0 : Nat → List (S62) → Int → Int → Option (Int)
 | 0, _, _, _ => none
 | k + 1, x0, x1, x5 => if x5 < (x0.length : Int) then (if 0 ≤ x5 then ((laws_markText.f k x1).bind fun t692 => (if ((rd_T62 x0 x5).f0).toList = t692.toList then (if ((rd_T62 x0 x5).f1) = (wrap64 (x1 + 1)) then (laws_heldChangeS.l0 k x0 (wrap64 ((wrap64 (x1 + 1)) + 1)) (wrap64 (x5 + 1))) else (some (-1))) else (some (-1)))) else (none)) else (some x1)
def laws_heldChangeS.f (k : Nat) (l0 : List (S62)) (a1 : Int) : Option (Int) := laws_heldChangeS.l0 k l0 a1 0
theorem laws_heldChangeS.mono_l : ∀ k, (∀ y0 y1 y2, LeO (laws_heldChangeS.l0 k y0 y1 y2) (laws_heldChangeS.l0 (k + 1) y0 y1 y2))
 | 0 => fun _ _ _ r h => by simp [laws_heldChangeS.l0] at h
 | k + 1 => by
  have ih0 := laws_heldChangeS.mono_l k
  ·intro y0 y1 y2
   unfold laws_heldChangeS.l0
   repeat' first
   | (with_reducible exact ih0 _ _ _)
   | (with_reducible exact laws_markText.mono _ _)
   | (with_reducible exact LeO.refl _)
   | (with_reducible exact LeO.none _)
   | (with_reducible refine LeO.ite ?_ ?_)
   | (with_reducible refine LeO.bind ?_ (fun _ => ?_))
   | exact ih0 _ _ _
   | exact laws_markText.mono _ _
   | exact LeO.none _
   | refine LeO.ite ?_ ?_
   | refine LeO.bind ?_ (fun _ => ?_)
theorem laws_heldChangeS.mono : ∀ a0 a1 k, LeO (laws_heldChangeS.f k a0 a1) (laws_heldChangeS.f (k + 1) a0 a1) := by
 intro a0 a1 k
 have ih0 := laws_heldChangeS.mono_l k
 unfold laws_heldChangeS.f
 repeat' first
   | (with_reducible exact ih0 _ _ _)
   | (with_reducible exact laws_markText.mono _ _)
   | (with_reducible exact LeO.refl _)
   | (with_reducible exact LeO.none _)
   | (with_reducible refine LeO.ite ?_ ?_)
   | (with_reducible refine LeO.bind ?_ (fun _ => ?_))
   | exact ih0 _ _ _
   | exact laws_markText.mono _ _
   | exact LeO.none _
   | refine LeO.ite ?_ ?_
   | refine LeO.bind ?_ (fun _ => ?_)
def laws_heldChangeS.T4 : Bool × List (List Nat × List Nat) := (true, [([], []), ([], []), ([0, 1], [0, 1]), ([2], [2]), ([3], [3]), ([], []), ([5], [5]), ([4, 6], [4, 6])])
def laws_heldChangeS.B4 : List Nat := [0, 0, 3, 7, 15, 0, 32, 127]
theorem laws_heldChangeS.tab4 : rtab .any (opsOf Tryz.f27 4) = laws_heldChangeS.T4 := by kernel_rfl
theorem laws_heldChangeS.bits4 : waitsOk laws_heldChangeS.T4.2 laws_heldChangeS.B4 = true := by kernel_rfl
set_option maxHeartbeats 8000000 in
set_option maxRecDepth 100000 in
theorem laws_heldChangeS.calls (k : Nat) (A0 : Option Addr) (c0 : Nat) (l0 : List (S62)) (a1 : Int) (r : Int) (w : World) (hr0 : Kd.C k62 w A0 l0.length l0) (hc0 : l0.length ≤ c0) (h : laws_heldChangeS.f k l0 a1 = some r) :
  Calls Tryz.prog 27 #[.slice A0 l0.length c0, .int .i64 a1] w fun e w' => e = .returned (.int .i64 r) ∧ Below w.heap.size w w' := by
 have HR0 := Aside0.mk hr0
 have HC0 := Aside0.mk hc0
 clear hr0 hc0
 have HB := Aside0.mk (Below.refl w.heap.size w)
 have H : (laws_heldChangeS.l0 k l0 a1 0) = some r := h
 clear h
 have H' := Aside0.mk H
 clear H
 go_enter Tryz.func27, Tryz.ntmps27
 go_wp2
 go_loopg [1, 5] k (fun kq v1 v5 w' => ∃ (x1_1 : Int) (x5_1 : Int), v1 = .int .i64 x1_1 ∧ v5 = .int .i64 x5_1 ∧ Aside0 (laws_heldChangeS.l0 kq l0 x1_1 x5_1 = some r) ∧ Aside0 (kq ≤ k) ∧ Aside0 (Below w.heap.size w w'))
 case atStart => exact ⟨(a1), (0), (by first | rfl | (simp; done) | (simp [*]; done)), (by first | rfl | (simp; done) | (simp [*]; done)), H', ⟨Nat.le_refl _⟩, ⟨hb_⟩⟩
 case round =>
  clear H'
  try clear c2
  try clear p2
  obtain ⟨x1_1, x5_1, rfl, rfl, HA, HK1, HB⟩ := hrel
  cases gk with
  | zero => exact absurd HA.out (by simp [laws_heldChangeS.l0])
  | succ k1 =>
   have H := HA.out
   clear HA
   simp only [laws_heldChangeS.l0] at H
   by_cases c3 : x5_1 < (l0.length : Int)
   ·rw [if_pos c3] at H
    have c3b0 : decide (x5_1 < (l0.length : Int)) = true := decide_eq_true c3
    clear c3
    by_cases c4 : 0 ≤ x5_1
    ·rw [if_pos c4] at H
     have c4b0 : decide (0 ≤ x5_1) = true := decide_eq_true c4
     clear c4
     replace H := Option.bind_eq_some_iff.mp H
     obtain ⟨t692, A50, H⟩ := H
     replace H : (if ((rd_T62 l0 x5_1).f0).toList = t692.toList then (if ((rd_T62 l0 x5_1).f1) = (wrap64 (x1_1 + 1)) then (laws_heldChangeS.l0 k1 l0 (wrap64 ((wrap64 (x1_1 + 1)) + 1)) (wrap64 (x5_1 + 1))) else (some (-1))) else (some (-1))) = some r := H
     have A5 := Aside0.mk A50
     clear A50
     by_cases c6 : ((rd_T62 l0 x5_1).f0).toList = t692.toList
     ·rw [if_pos c6] at H
      have c6b0 : (((rd_T62 l0 x5_1).f0).toList == t692.toList) = true := beq_iff_eq.mpr c6
      have c6b1 : (((rd_T62 l0 x5_1).f0).toList != t692.toList) = false := bne_eq_false_iff_eq.mpr c6
      clear c6
      by_cases c7 : ((rd_T62 l0 x5_1).f1) = (wrap64 (x1_1 + 1))
      ·rw [if_pos c7] at H
       have c7b0 : (((rd_T62 l0 x5_1).f1) == (wrap64 (x1_1 + 1))) = true := beq_iff_eq.mpr c7
       have c7b1 : (((rd_T62 l0 x5_1).f1) != (wrap64 (x1_1 + 1))) = false := bne_eq_false_iff_eq.mpr c7
       clear c7
       have H' := Aside0.mk H
       clear H
       try go_wp2
       have n0_ := Aside0.mk (below_drew1 HB.out)
       clear HB
       have HB := n0_
       clear n0_
       have p691 : 0 ≤ (x5_1 : Int) := of_decide_eq_true ma_
       have q691 : x5_1 < (l0.length : Int) := of_decide_eq_true ma_
       obtain ⟨ad691, e691, hx691_0, hx691_1⟩ := at_T62 HR0.out x5_1 p691 q691
       have hw691_1 := hx691_1
       have hw691_0 := hx691_0
       cases e691
       replace hx691_0 := (HB.out.cell (World.block_lt_of_cell? w _ hx691_0)).trans hx691_0
       replace hx691_1 := (HB.out.cell (World.block_lt_of_cell? w _ hx691_1)).trans hx691_1
       replace p691 := eq_true p691
       replace q691 := eq_true q691
       refine start_ (n := 8) (S := fun w' => w'.cell? (ad691.add ((x5_1).toNat * 2)) = some (.string ((rd_T62 l0 x5_1).f0)) ∧ w'.cell? ⟨(ad691.add ((x5_1).toNat * 2)).block, (ad691.add ((x5_1).toNat * 2)).off + 1, none⟩ = some (.int .i64 ((rd_T62 l0 x5_1).f1))) (ds := []) (tf_ 0 8) (by kernel_rfl) rfl rfl ⟨((HB.out.cell (World.block_lt_of_cell? w _ hw691_0)).trans hw691_0), ((HB.out.cell (World.block_lt_of_cell? w _ hw691_1)).trans hw691_1)⟩ (fun hHeld => ?_); refine with_tabW laws_heldChangeS.tab4 laws_heldChangeS.bits4 (fun HT_ HW_ => ?_)
       generalize wr.drew = w8 at HB hx691_0 hx691_1 hHeld ⊢
       refine pa_ (i := 0) (N := some 12) (tf_ 1 7) ?_
       refine pa_ (i := 1) (N := some 13) (tf_ 2 6) ?_
       refine pa_ (i := 2) (N := some 14) (tf_ 3 5) ?_
       refine pa_ (i := 3) (N := some 15) (tf_ 4 4) ?_
       refine pure_ (i := 5) (N := some 17) (v := ?_) (a' := ?_) #[true, true, true, true, false, true, false, false] rfl rfl (any_of HT_.out (by kernel_rfl)) (fun _ _ _ h => h) (Or.inl ⟨by rfl, ?_⟩) ?_ ?_; rotate_left; (intro w'; go_simp; with_reducible rfl); rotate_left; (simp only [Act.put, List.setIfInBounds_toArray, List.set_cons_zero, List.set_cons_succ, i64_w, i32_w]; rfl)
       refine take_ (i := 4) (N := some 16) (v := ?_) (a' := ?_) (tf_ 6 2) rfl rfl (take_ofW HT_.out HW_.out (by kernel_rfl)) (fun _ _ _ h => h) (Or.inl ⟨by rfl, ?_⟩) hHeld ?_ ?_
       rotate_left
       ·rintro w' ⟨s0, s1⟩
        go_simp
        with_reducible rfl
       rotate_left
       ·simp only [Act.put, List.setIfInBounds_toArray, List.set_cons_zero, List.set_cons_succ, i64_w, i32_w]
        rfl
       refine one_ (i := 6) (N := some 18) (tf_ 7 1) rfl rfl (one_of HT_.out (by kernel_rfl)) (by decide) (fun K hK => ?_)
       refine goes_ Tryz.func35 (by kernel_rfl) rfl #[.int .i64 x1_1] (by rfl) rfl rfl sl_ ?_
       with_reducible refine (laws_markText.calls k1 x1_1 t692 _ A5.out).mono ?_
       rintro e w9 ⟨rfl, hb⟩
       refine ⟨_, rfl, ?_⟩
       have n0_ := Aside0.mk (below_step hb_ hb)
       clear HB
       have HB := n0_
       clear n0_
       (try clear hb)
       (try clear hb2)
       (try clear hk)
       (try clear hi)
       refine hK.out _ _ ⟨((HB.out.cell (World.block_lt_of_cell? w _ hw691_0)).trans hw691_0), ((HB.out.cell (World.block_lt_of_cell? w _ hw691_1)).trans hw691_1)⟩ (fun hHeld => ?_)
       clear hK K
       refine norm_ (a' := ?_) ?_ ?_
       rotate_left
       ·show Act.put _ (some 18) _ = _
        simp only [Act.put, List.setIfInBounds_toArray, List.set_cons_zero, List.set_cons_succ, i64_w, i32_w]
        rfl
       refine pa_ (i := 7) (N := some 19) (tf_ 8 0) ?_
       refine done_ (done_of HT_.out (by kernel_rfl)) ?_
       have p693 : 0 ≤ (x5_1 : Int) := of_decide_eq_true ma_
       have q693 : x5_1 < (l0.length : Int) := of_decide_eq_true ma_
       obtain ⟨ad693, e693, hx693_0, hx693_1⟩ := at_T62 HR0.out x5_1 p693 q693
       obtain rfl : ad691 = ad693 := (by injection e693)
       replace hx693_0 := (HB.out.cell (World.block_lt_of_cell? w _ hx693_0)).trans hx693_0
       replace hx693_1 := (HB.out.cell (World.block_lt_of_cell? w _ hx693_1)).trans hx693_1
       replace p693 := eq_true p693
       replace q693 := eq_true q693
       try go_wp2
       go_roundg k1
       case measure => have := HK1.out; omega
       case rel => exact ⟨(wrap64 ((wrap64 (x1_1 + 1)) + 1)), (wrap64 (x5_1 + 1)), (by first | rfl | (simp; done) | (simp [*]; done)), (by first | rfl | (simp; done) | (simp [*]; done)), H', ⟨by have := HK1.out; omega⟩, ⟨hb_⟩⟩
      ·rw [if_neg c7] at H
       have c7b0 : (((rd_T62 l0 x5_1).f1) == (wrap64 (x1_1 + 1))) = false := beq_eq_false_iff_ne.mpr c7
       have c7b1 : (((rd_T62 l0 x5_1).f1) != (wrap64 (x1_1 + 1))) = true := bne_iff_ne.mpr c7
       obtain rfl := Option.some.inj H
       try go_wp2
       have n0_ := Aside0.mk (below_drew1 HB.out)
       clear HB
       have HB := n0_
       clear n0_
       have p691 : 0 ≤ (x5_1 : Int) := of_decide_eq_true ma_
       have q691 : x5_1 < (l0.length : Int) := of_decide_eq_true ma_
       obtain ⟨ad691, e691, hx691_0, hx691_1⟩ := at_T62 HR0.out x5_1 p691 q691
       have hw691_1 := hx691_1
       have hw691_0 := hx691_0
       cases e691
       replace hx691_0 := (HB.out.cell (World.block_lt_of_cell? w _ hx691_0)).trans hx691_0
       replace hx691_1 := (HB.out.cell (World.block_lt_of_cell? w _ hx691_1)).trans hx691_1
       replace p691 := eq_true p691
       replace q691 := eq_true q691
       refine start_ (n := 8) (S := fun w' => w'.cell? (ad691.add ((x5_1).toNat * 2)) = some (.string ((rd_T62 l0 x5_1).f0)) ∧ w'.cell? ⟨(ad691.add ((x5_1).toNat * 2)).block, (ad691.add ((x5_1).toNat * 2)).off + 1, none⟩ = some (.int .i64 ((rd_T62 l0 x5_1).f1))) (ds := []) (tf_ 0 8) (by kernel_rfl) rfl rfl ⟨((HB.out.cell (World.block_lt_of_cell? w _ hw691_0)).trans hw691_0), ((HB.out.cell (World.block_lt_of_cell? w _ hw691_1)).trans hw691_1)⟩ (fun hHeld => ?_); refine with_tabW laws_heldChangeS.tab4 laws_heldChangeS.bits4 (fun HT_ HW_ => ?_)
       generalize wr.drew = w10 at HB hx691_0 hx691_1 hHeld ⊢
       refine pa_ (i := 0) (N := some 12) (tf_ 1 7) ?_
       refine pa_ (i := 1) (N := some 13) (tf_ 2 6) ?_
       refine pa_ (i := 2) (N := some 14) (tf_ 3 5) ?_
       refine pa_ (i := 3) (N := some 15) (tf_ 4 4) ?_
       refine pure_ (i := 5) (N := some 17) (v := ?_) (a' := ?_) #[true, true, true, true, false, true, false, false] rfl rfl (any_of HT_.out (by kernel_rfl)) (fun _ _ _ h => h) (Or.inl ⟨by rfl, ?_⟩) ?_ ?_; rotate_left; (intro w'; go_simp; with_reducible rfl); rotate_left; (simp only [Act.put, List.setIfInBounds_toArray, List.set_cons_zero, List.set_cons_succ, i64_w, i32_w]; rfl)
       refine take_ (i := 4) (N := some 16) (v := ?_) (a' := ?_) (tf_ 6 2) rfl rfl (take_ofW HT_.out HW_.out (by kernel_rfl)) (fun _ _ _ h => h) (Or.inl ⟨by rfl, ?_⟩) hHeld ?_ ?_
       rotate_left
       ·rintro w' ⟨s0, s1⟩
        go_simp
        with_reducible rfl
       rotate_left
       ·simp only [Act.put, List.setIfInBounds_toArray, List.set_cons_zero, List.set_cons_succ, i64_w, i32_w]
        rfl
       refine one_ (i := 6) (N := some 18) (tf_ 7 1) rfl rfl (one_of HT_.out (by kernel_rfl)) (by decide) (fun K hK => ?_)
       refine goes_ Tryz.func35 (by kernel_rfl) rfl #[.int .i64 x1_1] (by rfl) rfl rfl sl_ ?_
       with_reducible refine (laws_markText.calls k1 x1_1 t692 _ A5.out).mono ?_
       rintro e w11 ⟨rfl, hb⟩
       refine ⟨_, rfl, ?_⟩
       have n0_ := Aside0.mk (below_step hb_ hb)
       clear HB
       have HB := n0_
       clear n0_
       (try clear hb)
       (try clear hb2)
       (try clear hk)
       (try clear hi)
       refine hK.out _ _ ⟨((HB.out.cell (World.block_lt_of_cell? w _ hw691_0)).trans hw691_0), ((HB.out.cell (World.block_lt_of_cell? w _ hw691_1)).trans hw691_1)⟩ (fun hHeld => ?_)
       clear hK K
       refine norm_ (a' := ?_) ?_ ?_
       rotate_left
       ·show Act.put _ (some 18) _ = _
        simp only [Act.put, List.setIfInBounds_toArray, List.set_cons_zero, List.set_cons_succ, i64_w, i32_w]
        rfl
       refine pa_ (i := 7) (N := some 19) (tf_ 8 0) ?_
       refine done_ (done_of HT_.out (by kernel_rfl)) ?_
       have p693 : 0 ≤ (x5_1 : Int) := of_decide_eq_true ma_
       have q693 : x5_1 < (l0.length : Int) := of_decide_eq_true ma_
       obtain ⟨ad693, e693, hx693_0, hx693_1⟩ := at_T62 HR0.out x5_1 p693 q693
       obtain rfl : ad691 = ad693 := (by injection e693)
       replace hx693_0 := (HB.out.cell (World.block_lt_of_cell? w _ hx693_0)).trans hx693_0
       replace hx693_1 := (HB.out.cell (World.block_lt_of_cell? w _ hx693_1)).trans hx693_1
       replace p693 := eq_true p693
       replace q693 := eq_true q693
       try go_wp2
       go_ret
       exact ⟨er_, hb_⟩
     ·rw [if_neg c6] at H
      have c6b0 : (((rd_T62 l0 x5_1).f0).toList == t692.toList) = false := beq_eq_false_iff_ne.mpr c6
      have c6b1 : (((rd_T62 l0 x5_1).f0).toList != t692.toList) = true := bne_iff_ne.mpr c6
      obtain rfl := Option.some.inj H
      try go_wp2
      have n0_ := Aside0.mk (below_drew1 HB.out)
      clear HB
      have HB := n0_
      clear n0_
      have p691 : 0 ≤ (x5_1 : Int) := of_decide_eq_true ma_
      have q691 : x5_1 < (l0.length : Int) := of_decide_eq_true ma_
      obtain ⟨ad691, e691, hx691_0, hx691_1⟩ := at_T62 HR0.out x5_1 p691 q691
      have hw691_1 := hx691_1
      have hw691_0 := hx691_0
      cases e691
      replace hx691_0 := (HB.out.cell (World.block_lt_of_cell? w _ hx691_0)).trans hx691_0
      replace hx691_1 := (HB.out.cell (World.block_lt_of_cell? w _ hx691_1)).trans hx691_1
      replace p691 := eq_true p691
      replace q691 := eq_true q691
      refine start_ (n := 8) (S := fun w' => w'.cell? (ad691.add ((x5_1).toNat * 2)) = some (.string ((rd_T62 l0 x5_1).f0)) ∧ w'.cell? ⟨(ad691.add ((x5_1).toNat * 2)).block, (ad691.add ((x5_1).toNat * 2)).off + 1, none⟩ = some (.int .i64 ((rd_T62 l0 x5_1).f1))) (ds := []) (tf_ 0 8) (by kernel_rfl) rfl rfl ⟨((HB.out.cell (World.block_lt_of_cell? w _ hw691_0)).trans hw691_0), ((HB.out.cell (World.block_lt_of_cell? w _ hw691_1)).trans hw691_1)⟩ (fun hHeld => ?_); refine with_tabW laws_heldChangeS.tab4 laws_heldChangeS.bits4 (fun HT_ HW_ => ?_)
      generalize wr.drew = w12 at HB hx691_0 hx691_1 hHeld ⊢
      refine pa_ (i := 0) (N := some 12) (tf_ 1 7) ?_
      refine pa_ (i := 1) (N := some 13) (tf_ 2 6) ?_
      refine pa_ (i := 2) (N := some 14) (tf_ 3 5) ?_
      refine pa_ (i := 3) (N := some 15) (tf_ 4 4) ?_
      refine pure_ (i := 5) (N := some 17) (v := ?_) (a' := ?_) #[true, true, true, true, false, true, false, false] rfl rfl (any_of HT_.out (by kernel_rfl)) (fun _ _ _ h => h) (Or.inl ⟨by rfl, ?_⟩) ?_ ?_; rotate_left; (intro w'; go_simp; with_reducible rfl); rotate_left; (simp only [Act.put, List.setIfInBounds_toArray, List.set_cons_zero, List.set_cons_succ, i64_w, i32_w]; rfl)
      refine take_ (i := 4) (N := some 16) (v := ?_) (a' := ?_) (tf_ 6 2) rfl rfl (take_ofW HT_.out HW_.out (by kernel_rfl)) (fun _ _ _ h => h) (Or.inl ⟨by rfl, ?_⟩) hHeld ?_ ?_
      rotate_left
      ·rintro w' ⟨s0, s1⟩
       go_simp
       with_reducible rfl
      rotate_left
      ·simp only [Act.put, List.setIfInBounds_toArray, List.set_cons_zero, List.set_cons_succ, i64_w, i32_w]
       rfl
      refine one_ (i := 6) (N := some 18) (tf_ 7 1) rfl rfl (one_of HT_.out (by kernel_rfl)) (by decide) (fun K hK => ?_)
      refine goes_ Tryz.func35 (by kernel_rfl) rfl #[.int .i64 x1_1] (by rfl) rfl rfl sl_ ?_
      with_reducible refine (laws_markText.calls k1 x1_1 t692 _ A5.out).mono ?_
      rintro e w13 ⟨rfl, hb⟩
      refine ⟨_, rfl, ?_⟩
      have n0_ := Aside0.mk (below_step hb_ hb)
      clear HB
      have HB := n0_
      clear n0_
      (try clear hb)
      (try clear hb2)
      (try clear hk)
      (try clear hi)
      refine hK.out _ _ ⟨((HB.out.cell (World.block_lt_of_cell? w _ hw691_0)).trans hw691_0), ((HB.out.cell (World.block_lt_of_cell? w _ hw691_1)).trans hw691_1)⟩ (fun hHeld => ?_)
      clear hK K
      refine norm_ (a' := ?_) ?_ ?_
      rotate_left
      ·show Act.put _ (some 18) _ = _
       simp only [Act.put, List.setIfInBounds_toArray, List.set_cons_zero, List.set_cons_succ, i64_w, i32_w]
       rfl
      refine pa_ (i := 7) (N := some 19) (tf_ 8 0) ?_
      refine done_ (done_of HT_.out (by kernel_rfl)) ?_
      try go_wp2
      go_ret
      exact ⟨er_, hb_⟩
    ·rw [if_neg c4] at H
     exact absurd H (by simp)
   ·rw [if_neg c3] at H
    have c3b0 : decide (x5_1 < (l0.length : Int)) = false := decide_eq_false c3
    clear c3
    obtain rfl := Option.some.inj H
    go_wp2
    go_ret
    exact ⟨er_, hb_⟩
/-! ### laws_FnExactChangesOf: function 7 -/
def laws_FnExactChangesOf.j0 : Nat → List (S42) → Int → Int → List (S62) → List (S62) → Bool → Option (Bool)
 | 0, _, _, _, _, _, _ => none
 | k + 1, x0, x1, x2, x8, x10, x50 => if x50 = true then (some false) else ((laws_markChangeS.f k x10 1).bind fun bt715 => ((laws_heldChangeS.f k bt715.2 1).bind fun t717 => (if t717 < 0 then (some false) else (if t717 = bt715.1 then ((laws_toPieceS.f k x0).bind fun t718 => ((impl_ChangesOf.f k t718 x1 x2).bind fun t721 => ((laws_eqChangeS.f k t721 x8).bind fun t724 => (if t724 = true then ((laws_heldChangeS.f k bt715.2 1).bind fun t725 => (if t725 < 0 then (some false) else (if t725 = bt715.1 then (some true) else (some false)))) else (some false))))) else (some false)))))
def laws_FnExactChangesOf.f (k : Nat) (l0 : List (S42)) (a1 : Int) (a2 : Int) : Option (Bool) := (laws_szPieceS.f k l0 1048576).bind fun t694 => (if t694 < 0 then (some true) else ((laws_toPieceS.f k l0).bind fun t695 => ((spec_ChangesOf.f k t695 a1 a2).bind fun t698 => ((laws_toPieceS.f k l0).bind fun t701 => ((impl_ChangesOf.f k t701 a1 a2).bind fun t704 => ((laws_eqChangeS.f k t704 t698).bind fun t707 => (if t707 = true then ((laws_toPieceS.f k l0).bind fun t708 => ((laws_eqPieceS.f k t701 t708).bind fun t711 => (if t711 = true then ((laws_markPieceS.f k t701 1).bind fun bt712 => (if bt712.1 < 0 then (laws_FnExactChangesOf.j0 k l0 a1 a2 t698 t704 true) else ((laws_eqChangeS.f k t704 t698).bind fun t714 => (laws_FnExactChangesOf.j0 k l0 a1 a2 t698 t704 (!t714))))) else (some false)))) else (some false))))))))
theorem laws_FnExactChangesOf.mono_l : ∀ k, (∀ y0 y1 y2 y3 y4 y5, LeO (laws_FnExactChangesOf.j0 k y0 y1 y2 y3 y4 y5) (laws_FnExactChangesOf.j0 (k + 1) y0 y1 y2 y3 y4 y5))
 | 0 => fun _ _ _ _ _ _ r h => by simp [laws_FnExactChangesOf.j0] at h
 | k + 1 => by
  have ih0 := laws_FnExactChangesOf.mono_l k
  ·intro y0 y1 y2 y3 y4 y5
   unfold laws_FnExactChangesOf.j0
   repeat' first
   | (with_reducible exact ih0 _ _ _ _ _ _)
   | (with_reducible exact impl_ChangesOf.mono _ _ _ _)
   | (with_reducible exact laws_eqChangeS.mono _ _ _)
   | (with_reducible exact laws_eqPieceS.mono _ _ _)
   | (with_reducible exact laws_heldChangeS.mono _ _ _)
   | (with_reducible exact laws_markChangeS.mono _ _ _)
   | (with_reducible exact laws_markPieceS.mono _ _ _)
   | (with_reducible exact laws_szPieceS.mono _ _ _)
   | (with_reducible exact laws_toPieceS.mono _ _)
   | (with_reducible exact spec_ChangesOf.mono _ _ _ _)
   | (with_reducible exact LeO.refl _)
   | (with_reducible exact LeO.none _)
   | (with_reducible refine LeO.ite ?_ ?_)
   | (with_reducible refine LeO.bind ?_ (fun _ => ?_))
   | exact ih0 _ _ _ _ _ _
   | exact impl_ChangesOf.mono _ _ _ _
   | exact laws_eqChangeS.mono _ _ _
   | exact laws_eqPieceS.mono _ _ _
   | exact laws_heldChangeS.mono _ _ _
   | exact laws_markChangeS.mono _ _ _
   | exact laws_markPieceS.mono _ _ _
   | exact laws_szPieceS.mono _ _ _
   | exact laws_toPieceS.mono _ _
   | exact spec_ChangesOf.mono _ _ _ _
   | exact LeO.none _
   | refine LeO.ite ?_ ?_
   | refine LeO.bind ?_ (fun _ => ?_)
theorem laws_FnExactChangesOf.mono : ∀ a0 a1 a2 k, LeO (laws_FnExactChangesOf.f k a0 a1 a2) (laws_FnExactChangesOf.f (k + 1) a0 a1 a2) := by
 intro a0 a1 a2 k
 have ih0 := laws_FnExactChangesOf.mono_l k
 unfold laws_FnExactChangesOf.f
 repeat' first
   | (with_reducible exact ih0 _ _ _ _ _ _)
   | (with_reducible exact impl_ChangesOf.mono _ _ _ _)
   | (with_reducible exact laws_eqChangeS.mono _ _ _)
   | (with_reducible exact laws_eqPieceS.mono _ _ _)
   | (with_reducible exact laws_heldChangeS.mono _ _ _)
   | (with_reducible exact laws_markChangeS.mono _ _ _)
   | (with_reducible exact laws_markPieceS.mono _ _ _)
   | (with_reducible exact laws_szPieceS.mono _ _ _)
   | (with_reducible exact laws_toPieceS.mono _ _)
   | (with_reducible exact spec_ChangesOf.mono _ _ _ _)
   | (with_reducible exact LeO.refl _)
   | (with_reducible exact LeO.none _)
   | (with_reducible refine LeO.ite ?_ ?_)
   | (with_reducible refine LeO.bind ?_ (fun _ => ?_))
   | exact ih0 _ _ _ _ _ _
   | exact impl_ChangesOf.mono _ _ _ _
   | exact laws_eqChangeS.mono _ _ _
   | exact laws_eqPieceS.mono _ _ _
   | exact laws_heldChangeS.mono _ _ _
   | exact laws_markChangeS.mono _ _ _
   | exact laws_markPieceS.mono _ _ _
   | exact laws_szPieceS.mono _ _ _
   | exact laws_toPieceS.mono _ _
   | exact spec_ChangesOf.mono _ _ _ _
   | exact LeO.none _
   | refine LeO.ite ?_ ?_
   | refine LeO.bind ?_ (fun _ => ?_)
set_option maxHeartbeats 8000000 in
set_option maxRecDepth 100000 in
theorem laws_FnExactChangesOf.calls (k : Nat) (A0 : Option Addr) (c0 : Nat) (l0 : List (S42)) (a1 : Int) (a2 : Int) (r : Bool) (w : World) (hr0 : Kd.C k42 w A0 l0.length l0) (hc0 : l0.length ≤ c0) (hG : GT w) (h : laws_FnExactChangesOf.f k l0 a1 a2 = some r) (hrt : r = true) :
  Calls Tryz.prog 7 #[.slice A0 l0.length c0, .int .i64 a1, .int .i64 a2] w fun e w' => e = .returned (.bool r) ∧ Below w.heap.size w w' := by
 have HR0 := Aside0.mk hr0
 have HC0 := Aside0.mk hc0
 clear hr0 hc0
 have HB := Aside0.mk (Below.refl w.heap.size w)
 have H : ((laws_szPieceS.f k l0 1048576).bind fun t694 => (if t694 < 0 then (some true) else ((laws_toPieceS.f k l0).bind fun t695 => ((spec_ChangesOf.f k t695 a1 a2).bind fun t698 => ((laws_toPieceS.f k l0).bind fun t701 => ((impl_ChangesOf.f k t701 a1 a2).bind fun t704 => ((laws_eqChangeS.f k t704 t698).bind fun t707 => (if t707 = true then ((laws_toPieceS.f k l0).bind fun t708 => ((laws_eqPieceS.f k t701 t708).bind fun t711 => (if t711 = true then ((laws_markPieceS.f k t701 1).bind fun bt712 => (if bt712.1 < 0 then (laws_FnExactChangesOf.j0 k l0 a1 a2 t698 t704 true) else ((laws_eqChangeS.f k t704 t698).bind fun t714 => (laws_FnExactChangesOf.j0 k l0 a1 a2 t698 t704 (!t714))))) else (some false)))) else (some false))))))))) = some r := h
 clear h
 replace H := Option.bind_eq_some_iff.mp H
 obtain ⟨t694, A40, H⟩ := H
 replace H : (if t694 < 0 then (some true) else ((laws_toPieceS.f k l0).bind fun t695 => ((spec_ChangesOf.f k t695 a1 a2).bind fun t698 => ((laws_toPieceS.f k l0).bind fun t701 => ((impl_ChangesOf.f k t701 a1 a2).bind fun t704 => ((laws_eqChangeS.f k t704 t698).bind fun t707 => (if t707 = true then ((laws_toPieceS.f k l0).bind fun t708 => ((laws_eqPieceS.f k t701 t708).bind fun t711 => (if t711 = true then ((laws_markPieceS.f k t701 1).bind fun bt712 => (if bt712.1 < 0 then (laws_FnExactChangesOf.j0 k l0 a1 a2 t698 t704 true) else ((laws_eqChangeS.f k t704 t698).bind fun t714 => (laws_FnExactChangesOf.j0 k l0 a1 a2 t698 t704 (!t714))))) else (some false)))) else (some false)))))))) = some r := H
 have A4 := Aside0.mk A40
 clear A40
 by_cases c5 : t694 < 0
 ·rw [if_pos c5] at H
  have c5b0 : decide (t694 < 0) = true := decide_eq_true c5
  clear c5
  obtain rfl := Option.some.inj H
  go_enter Tryz.func7, Tryz.ntmps7
  go_wp2_with (first | ((with_reducible refine gate_callee (f := 8) rfl ?_); refine goesL_ (some 17) rfl rfl Tryz.func8 (by kernel_rfl) rfl #[.slice A0 l0.length c0, .int .i64 1048576] rfl sl_ ?_; (with_reducible refine (laws_szPieceS.calls k _ _ l0 1048576 t694 _ ?side1 ?side2 A4.out).mono ?_); (case side1 => exact kC_ HR0.out); (case side2 => exact HC0.out); rintro e w6 ⟨rfl, hb⟩; refine ⟨_, rfl, ?_⟩; replace HB := Aside0.mk (below_step hb_ hb); (try clear hb)))
  go_ret
  exact ⟨er_, hb_⟩
 ·rw [if_neg c5] at H
  have c5b0 : decide (t694 < 0) = false := decide_eq_false c5
  clear c5
  replace H := Option.bind_eq_some_iff.mp H
  obtain ⟨t695, A70, H⟩ := H
  replace H : ((spec_ChangesOf.f k t695 a1 a2).bind fun t698 => ((laws_toPieceS.f k l0).bind fun t701 => ((impl_ChangesOf.f k t701 a1 a2).bind fun t704 => ((laws_eqChangeS.f k t704 t698).bind fun t707 => (if t707 = true then ((laws_toPieceS.f k l0).bind fun t708 => ((laws_eqPieceS.f k t701 t708).bind fun t711 => (if t711 = true then ((laws_markPieceS.f k t701 1).bind fun bt712 => (if bt712.1 < 0 then (laws_FnExactChangesOf.j0 k l0 a1 a2 t698 t704 true) else ((laws_eqChangeS.f k t704 t698).bind fun t714 => (laws_FnExactChangesOf.j0 k l0 a1 a2 t698 t704 (!t714))))) else (some false)))) else (some false)))))) = some r := H
  have A7 := Aside0.mk A70
  clear A70
  replace H := Option.bind_eq_some_iff.mp H
  obtain ⟨t698, A80, H⟩ := H
  replace H : ((laws_toPieceS.f k l0).bind fun t701 => ((impl_ChangesOf.f k t701 a1 a2).bind fun t704 => ((laws_eqChangeS.f k t704 t698).bind fun t707 => (if t707 = true then ((laws_toPieceS.f k l0).bind fun t708 => ((laws_eqPieceS.f k t701 t708).bind fun t711 => (if t711 = true then ((laws_markPieceS.f k t701 1).bind fun bt712 => (if bt712.1 < 0 then (laws_FnExactChangesOf.j0 k l0 a1 a2 t698 t704 true) else ((laws_eqChangeS.f k t704 t698).bind fun t714 => (laws_FnExactChangesOf.j0 k l0 a1 a2 t698 t704 (!t714))))) else (some false)))) else (some false))))) = some r := H
  have A8 := Aside0.mk A80
  clear A80
  replace H := Option.bind_eq_some_iff.mp H
  obtain ⟨t701, A90, H⟩ := H
  replace H : ((impl_ChangesOf.f k t701 a1 a2).bind fun t704 => ((laws_eqChangeS.f k t704 t698).bind fun t707 => (if t707 = true then ((laws_toPieceS.f k l0).bind fun t708 => ((laws_eqPieceS.f k t701 t708).bind fun t711 => (if t711 = true then ((laws_markPieceS.f k t701 1).bind fun bt712 => (if bt712.1 < 0 then (laws_FnExactChangesOf.j0 k l0 a1 a2 t698 t704 true) else ((laws_eqChangeS.f k t704 t698).bind fun t714 => (laws_FnExactChangesOf.j0 k l0 a1 a2 t698 t704 (!t714))))) else (some false)))) else (some false)))) = some r := H
  have A9 := Aside0.mk A90
  clear A90
  replace H := Option.bind_eq_some_iff.mp H
  obtain ⟨t704, A100, H⟩ := H
  replace H : ((laws_eqChangeS.f k t704 t698).bind fun t707 => (if t707 = true then ((laws_toPieceS.f k l0).bind fun t708 => ((laws_eqPieceS.f k t701 t708).bind fun t711 => (if t711 = true then ((laws_markPieceS.f k t701 1).bind fun bt712 => (if bt712.1 < 0 then (laws_FnExactChangesOf.j0 k l0 a1 a2 t698 t704 true) else ((laws_eqChangeS.f k t704 t698).bind fun t714 => (laws_FnExactChangesOf.j0 k l0 a1 a2 t698 t704 (!t714))))) else (some false)))) else (some false))) = some r := H
  have A10 := Aside0.mk A100
  clear A100
  replace H := Option.bind_eq_some_iff.mp H
  obtain ⟨t707, A110, H⟩ := H
  replace H : (if t707 = true then ((laws_toPieceS.f k l0).bind fun t708 => ((laws_eqPieceS.f k t701 t708).bind fun t711 => (if t711 = true then ((laws_markPieceS.f k t701 1).bind fun bt712 => (if bt712.1 < 0 then (laws_FnExactChangesOf.j0 k l0 a1 a2 t698 t704 true) else ((laws_eqChangeS.f k t704 t698).bind fun t714 => (laws_FnExactChangesOf.j0 k l0 a1 a2 t698 t704 (!t714))))) else (some false)))) else (some false)) = some r := H
  have A11 := Aside0.mk A110
  clear A110
  by_cases c12 : t707 = true
  ·subst c12
   have H1 : ((laws_toPieceS.f k l0).bind fun t708 => ((laws_eqPieceS.f k t701 t708).bind fun t711 => (if t711 = true then ((laws_markPieceS.f k t701 1).bind fun bt712 => (if bt712.1 < 0 then (laws_FnExactChangesOf.j0 k l0 a1 a2 t698 t704 true) else ((laws_eqChangeS.f k t704 t698).bind fun t714 => (laws_FnExactChangesOf.j0 k l0 a1 a2 t698 t704 (!t714))))) else (some false)))) = some r := by rw [if_pos rfl] at H; exact H
   clear H
   have H := H1
   clear H1
   replace H := Option.bind_eq_some_iff.mp H
   obtain ⟨t708, A130, H⟩ := H
   replace H : ((laws_eqPieceS.f k t701 t708).bind fun t711 => (if t711 = true then ((laws_markPieceS.f k t701 1).bind fun bt712 => (if bt712.1 < 0 then (laws_FnExactChangesOf.j0 k l0 a1 a2 t698 t704 true) else ((laws_eqChangeS.f k t704 t698).bind fun t714 => (laws_FnExactChangesOf.j0 k l0 a1 a2 t698 t704 (!t714))))) else (some false))) = some r := H
   have A13 := Aside0.mk A130
   clear A130
   replace H := Option.bind_eq_some_iff.mp H
   obtain ⟨t711, A140, H⟩ := H
   replace H : (if t711 = true then ((laws_markPieceS.f k t701 1).bind fun bt712 => (if bt712.1 < 0 then (laws_FnExactChangesOf.j0 k l0 a1 a2 t698 t704 true) else ((laws_eqChangeS.f k t704 t698).bind fun t714 => (laws_FnExactChangesOf.j0 k l0 a1 a2 t698 t704 (!t714))))) else (some false)) = some r := H
   have A14 := Aside0.mk A140
   clear A140
   by_cases c15 : t711 = true
   ·subst c15
    have H1 : ((laws_markPieceS.f k t701 1).bind fun bt712 => (if bt712.1 < 0 then (laws_FnExactChangesOf.j0 k l0 a1 a2 t698 t704 true) else ((laws_eqChangeS.f k t704 t698).bind fun t714 => (laws_FnExactChangesOf.j0 k l0 a1 a2 t698 t704 (!t714))))) = some r := by rw [if_pos rfl] at H; exact H
    clear H
    have H := H1
    clear H1
    replace H := Option.bind_eq_some_iff.mp H
    obtain ⟨⟨t712, t713⟩, A160, H⟩ := H
    replace H : (if t712 < 0 then (laws_FnExactChangesOf.j0 k l0 a1 a2 t698 t704 true) else ((laws_eqChangeS.f k t704 t698).bind fun t714 => (laws_FnExactChangesOf.j0 k l0 a1 a2 t698 t704 (!t714)))) = some r := H
    have A16 := Aside0.mk A160
    clear A160
    have HC17 := Aside0.mk H
    clear H
    go_enter Tryz.func7, Tryz.ntmps7
    go_upto_region 14 with (first | ((with_reducible refine gate_callee (f := 8) rfl ?_); refine goesL_ (some 17) rfl rfl Tryz.func8 (by kernel_rfl) rfl #[.slice A0 l0.length c0, .int .i64 1048576] rfl sl_ ?_; (with_reducible refine (laws_szPieceS.calls k _ _ l0 1048576 t694 _ ?side1 ?side2 A4.out).mono ?_); (case side1 => exact kC_ HR0.out); (case side2 => exact HC0.out); rintro e w18 ⟨rfl, hb⟩; refine ⟨_, rfl, ?_⟩; replace HB := Aside0.mk (below_step hb_ hb); (try clear hb)) | ((with_reducible refine gate_callee (f := 10) rfl ?_); refine goesL_ (some 21) rfl rfl Tryz.func10 (by kernel_rfl) rfl #[.slice A0 l0.length c0] rfl sl_ ?_; (with_reducible refine (laws_toPieceS.calls k _ _ l0 t695 _ ?side1 ?side2 A7.out).mono ?_); (case side1 => exact kC_ (Kd.C_below HR0.out HB.out)); (case side2 => exact HC0.out); rintro e w19 ⟨v696, rfl, ho0, hb⟩; refine ⟨_, rfl, ?_⟩; have HO697 := Aside0.mk (Kd.R_lower ho0 (below_size hb_)); replace HB := Aside0.mk (below_step hb_ hb); (try clear hb); (try clear ho0); obtain ⟨Ao20, co20, eo20⟩ := Kd.R_slice HO697.out; subst eo20) | ((with_reducible refine gate_callee (f := 23) rfl ?_); refine goesL_ (some 24) rfl rfl Tryz.func23 (by kernel_rfl) rfl #[.slice Ao20 t695.length co20, .int .i64 a1, .int .i64 a2] rfl sl_ ?_; (with_reducible refine (spec_ChangesOf.calls k _ _ t695 a1 a2 t698 _ ?side1 ?side2 A8.out).mono ?_); (case side1 => exact kC_ ((Kd.R_reads' HO697.out).2.2)); (case side2 => exact (Kd.R_reads' HO697.out).2.1); rintro e w21 ⟨v699, rfl, ho0, hb⟩; refine ⟨_, rfl, ?_⟩; replace HO697 := Aside0.mk (Kd.R_below (kR_ HO697.out) hb); have HO700 := Aside0.mk (Kd.R_lower ho0 (below_size hb_)); replace HB := Aside0.mk (below_step hb_ hb); (try clear hb); (try clear ho0)) | ((with_reducible refine gate_callee (f := 10) rfl ?_); refine goesL_ (some 26) rfl rfl Tryz.func10 (by kernel_rfl) rfl #[.slice A0 l0.length c0] rfl sl_ ?_; (with_reducible refine (laws_toPieceS.calls k _ _ l0 t701 _ ?side1 ?side2 A9.out).mono ?_); (case side1 => exact kC_ (Kd.C_below HR0.out HB.out)); (case side2 => exact HC0.out); rintro e w22 ⟨v702, rfl, ho0, hb⟩; refine ⟨_, rfl, ?_⟩; replace HO700 := Aside0.mk (Kd.R_below (kR_ HO700.out) hb); have HO703 := Aside0.mk (Kd.R_lower (Kd.R_new' ho0 (Kd.R_lt (kR_ HO697.out))) (below_size hb_)); replace HO697 := Aside0.mk (Kd.R_elder' (kR_ HO697.out) (Kd.R_base ho0) hb); replace HB := Aside0.mk (below_step hb_ hb); (try clear hb); (try clear ho0); obtain ⟨Ao23, co23, eo23⟩ := Kd.R_slice HO703.out; subst eo23) | ((with_reducible refine gate_callee (f := 24) rfl ?_); refine goesL_ (some 30) rfl rfl Tryz.func24 (by kernel_rfl) rfl #[.slice Ao23 t701.length co23, .int .i64 a1, .int .i64 a2] rfl sl_ ?_; (with_reducible refine (impl_ChangesOf.calls k _ _ t701 a1 a2 t704 _ ?side1 ?side2 (GT_on hb_ hG) A10.out).mono ?_); (case side1 => exact kC_ ((Kd.R_reads' HO703.out).2.2)); (case side2 => exact (Kd.R_reads' HO703.out).2.1); rintro e w24 ⟨v705, rfl, ho0, hb⟩; refine ⟨_, rfl, ?_⟩; replace HO697 := Aside0.mk (Kd.R_below (kR_ HO697.out) hb); replace HO703 := Aside0.mk (Kd.R_below (kR_ HO703.out) hb); have HO706 := Aside0.mk (Kd.R_lower (Kd.R_new' ho0 (Kd.R_lt (kR_ HO700.out))) (below_size hb_)); replace HO700 := Aside0.mk (Kd.R_elder' (kR_ HO700.out) (Kd.R_base ho0) hb); replace HB := Aside0.mk (below_step hb_ hb); (try clear hb); (try clear ho0); obtain ⟨Ao25, co25, eo25⟩ := Kd.R_slice HO706.out; subst eo25; obtain ⟨Ao26, co26, eo26⟩ := Kd.R_slice HO700.out; subst eo26) | ((with_reducible refine gate_callee (f := 25) rfl ?_); refine goesL_ (some 33) rfl rfl Tryz.func25 (by kernel_rfl) rfl #[.slice Ao25 t704.length co25, .slice Ao26 t698.length co26] rfl sl_ ?_; (with_reducible refine (laws_eqChangeS.calls k _ _ t704 _ _ t698 true _ ?side1 ?side2 ?side3 ?side4 A11.out).mono ?_); (case side1 => exact kC_ ((Kd.R_reads' HO706.out).2.2)); (case side2 => exact (Kd.R_reads' HO706.out).2.1); (case side3 => exact kC_ ((Kd.R_reads' HO700.out).2.2)); (case side4 => exact (Kd.R_reads' HO700.out).2.1); rintro e w27 ⟨rfl, hb⟩; refine ⟨_, rfl, ?_⟩; replace HO697 := Aside0.mk (Kd.R_below (kR_ HO697.out) hb); replace HO700 := Aside0.mk (Kd.R_below (kR_ HO700.out) hb); replace HO703 := Aside0.mk (Kd.R_below (kR_ HO703.out) hb); replace HO706 := Aside0.mk (Kd.R_below (kR_ HO706.out) hb); replace HB := Aside0.mk (below_step hb_ hb); (try clear hb)) | ((with_reducible refine gate_callee (f := 10) rfl ?_); refine goesL_ (some 37) rfl rfl Tryz.func10 (by kernel_rfl) rfl #[.slice A0 l0.length c0] rfl sl_ ?_; (with_reducible refine (laws_toPieceS.calls k _ _ l0 t708 _ ?side1 ?side2 A13.out).mono ?_); (case side1 => exact kC_ (Kd.C_below HR0.out HB.out)); (case side2 => exact HC0.out); rintro e w28 ⟨v709, rfl, ho0, hb⟩; refine ⟨_, rfl, ?_⟩; replace HO700 := Aside0.mk (Kd.R_below (kR_ HO700.out) hb); replace HO706 := Aside0.mk (Kd.R_below (kR_ HO706.out) hb); have HO710 := Aside0.mk (Kd.R_lower (Kd.R_new' (Kd.R_new' ho0 (Kd.R_lt (kR_ HO697.out))) (Kd.R_lt (kR_ HO703.out))) (below_size hb_)); replace HO697 := Aside0.mk (Kd.R_elder' (kR_ HO697.out) (Kd.R_base ho0) hb); replace HO703 := Aside0.mk (Kd.R_elder' (kR_ HO703.out) (Kd.R_base ho0) hb); replace HB := Aside0.mk (below_step hb_ hb); (try clear hb); (try clear ho0); obtain ⟨Ao29, co29, eo29⟩ := Kd.R_slice HO710.out; subst eo29) | ((with_reducible refine gate_callee (f := 13) rfl ?_); refine goesL_ (some 38) rfl rfl Tryz.func13 (by kernel_rfl) rfl #[.slice Ao23 t701.length co23, .slice Ao29 t708.length co29] rfl sl_ ?_; (with_reducible refine (laws_eqPieceS.calls k _ _ t701 _ _ t708 true _ ?side1 ?side2 ?side3 ?side4 A14.out).mono ?_); (case side1 => exact kC_ ((Kd.R_reads' HO703.out).2.2)); (case side2 => exact (Kd.R_reads' HO703.out).2.1); (case side3 => exact kC_ ((Kd.R_reads' HO710.out).2.2)); (case side4 => exact (Kd.R_reads' HO710.out).2.1); rintro e w30 ⟨rfl, hb⟩; refine ⟨_, rfl, ?_⟩; replace HO697 := Aside0.mk (Kd.R_below (kR_ HO697.out) hb); replace HO700 := Aside0.mk (Kd.R_below (kR_ HO700.out) hb); replace HO703 := Aside0.mk (Kd.R_below (kR_ HO703.out) hb); replace HO706 := Aside0.mk (Kd.R_below (kR_ HO706.out) hb); replace HO710 := Aside0.mk (Kd.R_below (kR_ HO710.out) hb); replace HB := Aside0.mk (below_step hb_ hb); (try clear hb)) | ((with_reducible refine gate_callee (f := 14) rfl ?_); refine goesL_ (some 42) rfl rfl Tryz.func14 (by kernel_rfl) rfl #[.slice Ao23 t701.length co23, .int .i64 1] rfl sl_ ?_; (with_reducible refine (laws_markPieceS.calls k (fun k_ => some k_ = (.slice Ao23 t701.length co23 : Value).ownBlock) (.slice Ao23 t701.length co23) t701 1 t712 t713 w _ ?side1 ?side2 A16.out).mono ?_); (case side1 => repeat (first | (with_reducible first | exact HB.out | apply below_alloc | apply pw_below_drewN | apply below_drew1) | exact HB.out)); (case side2 => exact Kd.R_tight rfl HO703.out); rintro e w31 ⟨rfl, hy0, hb, hkp⟩; refine ⟨_, rfl, ?_⟩; replace HO697 := Aside0.mk (Kd.R_mono (ok' := fun k_ => some k_ ≠ (.slice Ao23 t701.length co23 : Value).ownBlock ∧ some k_ ≠ (.slice Ao29 t708.length co29 : Value).ownBlock) (Kd.R_keptB (HO697.out) hkp (fun k_ hk_ hs_ => (hk_.1.2) hs_)) (fun k_ hk_ => ⟨hk_.1.1.2, hk_.1.2⟩)); replace HO700 := Aside0.mk (Kd.R_mono (ok' := fun k_ => some k_ ≠ (.slice Ao25 t704.length co25 : Value).ownBlock) (Kd.R_keptB ((Kd.R_apart' HO700.out (Kd.R_typed HO703.out) (by decide))) hkp (fun k_ hk_ hs_ => (hk_.2) hs_)) (fun k_ hk_ => hk_.1.1.2)); replace HO706 := Aside0.mk (Kd.R_mono (ok' := fun k_ => some k_ ≠ (.slice Ao26 t698.length co26 : Value).ownBlock) (Kd.R_keptB ((Kd.R_apart' HO706.out (Kd.R_typed HO703.out) (by decide))) hkp (fun k_ hk_ hs_ => (hk_.2) hs_)) (fun k_ hk_ => hk_.1.1.2)); replace HO703 := Aside0.mk (Kd.R_reok rfl hy0 (fun k_ e_ => HO703.out.1 k_ e_)); replace HO710 := Aside0.mk (Kd.R_mono (ok' := fun k_ => some k_ ≠ (.slice Ao20 t695.length co20 : Value).ownBlock ∧ some k_ ≠ (.slice Ao23 t701.length co23 : Value).ownBlock) (Kd.R_keptB (HO710.out) hkp (fun k_ hk_ hs_ => (hk_.2) hs_)) (fun k_ hk_ => ⟨hk_.1.1.2, hk_.1.2⟩)); replace HB := Aside0.mk (hb); (try clear hb); (try clear hkp); (try clear hy0)))
    (try simp only [Act.put, List.setIfInBounds_toArray, List.set_cons_zero, List.set_cons_succ])
    go_cut [50] (fun v50 wc => ∃ (kq : Nat) (x50_16 : Bool), v50 = .bool x50_16 ∧ Aside0 (laws_FnExactChangesOf.j0 kq l0 a1 a2 t698 t704 x50_16 = some r) ∧ Aside0 (kq ≤ k) ∧ Aside0 (Kd.R k62 62 wc w.heap.size (fun k_ => some k_ ≠ ((.slice Ao25 t704.length co25) : Value).ownBlock) (.slice Ao26 t698.length co26) t698) ∧ Aside0 (Kd.R k62 62 wc w.heap.size (fun k_ => some k_ ≠ ((.slice Ao26 t698.length co26) : Value).ownBlock) (.slice Ao25 t704.length co25) t704) ∧ Aside0 (Below w.heap.size w wc))
    case first =>
     have H := HC17.out
     clear HC17
     by_cases c32 : t712 < 0
     ·rw [if_pos c32] at H
      have c32b0 : decide (t712 < 0) = true := decide_eq_true c32
      clear c32
      (first | rw [c32b0] | (simp only [i64_w, i32_w]; rw [c32b0]) | skip)
      have H' := Aside0.mk H
      clear H
      go_wp2
      go_meet
      case rel => exact ⟨_, (true), (by first | rfl | (simp; done) | (simp [*]; done)), H', ⟨by first | omega | exact Nat.le_refl _⟩, ⟨by (with_reducible repeat (first | apply Kd.R_alloc | apply Kd.R_drewN | apply Kd.R_drew)); exact HO700.out⟩, ⟨by (with_reducible repeat (first | apply Kd.R_alloc | apply Kd.R_drewN | apply Kd.R_drew)); exact HO706.out⟩, ⟨hb_⟩⟩
     ·rw [if_neg c32] at H
      have c32b0 : decide (t712 < 0) = false := decide_eq_false c32
      clear c32
      (first | rw [c32b0] | (simp only [i64_w, i32_w]; rw [c32b0]) | skip)
      replace H := Option.bind_eq_some_iff.mp H
      obtain ⟨t714, A330, H⟩ := H
      replace H : (laws_FnExactChangesOf.j0 k l0 a1 a2 t698 t704 (!t714)) = some r := H
      have A33 := Aside0.mk A330
      clear A330
      have H' := Aside0.mk H
      clear H
      go_wp2_with (first | (go_at_call 25; (with_reducible refine (laws_eqChangeS.calls k _ _ t704 _ _ t698 t714 _ ?side1 ?side2 ?side3 ?side4 A33.out).mono ?_); (case side1 => exact kC_ ((Kd.R_reads' HO706.out).2.2)); (case side2 => exact (Kd.R_reads' HO706.out).2.1); (case side3 => exact kC_ ((Kd.R_reads' HO700.out).2.2)); (case side4 => exact (Kd.R_reads' HO700.out).2.1); rintro e w34 ⟨rfl, hb⟩; replace HO697 := Aside0.mk (Kd.R_below (kR_ HO697.out) hb); replace HO700 := Aside0.mk (Kd.R_below (kR_ HO700.out) hb); replace HO703 := Aside0.mk (Kd.R_below (kR_ HO703.out) hb); replace HO706 := Aside0.mk (Kd.R_below (kR_ HO706.out) hb); replace HO710 := Aside0.mk (Kd.R_below (kR_ HO710.out) hb); replace HB := Aside0.mk (below_step hb_ hb); (try clear hb)))
      go_meet
      case rel => exact ⟨_, (!t714), (by first | rfl | (simp; done) | (simp [*]; done)), H', ⟨by first | omega | exact Nat.le_refl _⟩, ⟨by (with_reducible repeat (first | apply Kd.R_alloc | apply Kd.R_drewN | apply Kd.R_drew)); exact HO700.out⟩, ⟨by (with_reducible repeat (first | apply Kd.R_alloc | apply Kd.R_drewN | apply Kd.R_drew)); exact HO706.out⟩, ⟨hb_⟩⟩
    case rest =>
     clear HC17
     try clear c1
     try clear c2
     try clear p2
     try clear c3
     try clear c5
     try clear c5b0
     try clear c7
     try clear c8
     try clear c10
     try clear c12
     try clear c13
     try clear c14
     try clear c15
     try clear c23
     try clear c24
     try clear c25
     try clear c32
     try clear c32b0
     obtain ⟨kq, x50_16, rfl, HA, HJ16, HO_8, HO_10, HB⟩ := hcut
     cases kq with
     | zero => exact absurd HA.out (by simp [laws_FnExactChangesOf.j0])
     | succ kj16 =>
      have H := HA.out
      clear HA
      simp only [laws_FnExactChangesOf.j0] at H
      by_cases c35 : x50_16 = true
      ·subst c35
       have H1 : (some false) = some r := by rw [if_pos rfl] at H; exact H
       clear H
       have H := H1
       clear H1
       exact absurd H (by subst hrt; decide)
      ·replace c35 := Bool.eq_false_iff.mpr c35
       subst c35
       have H1 : ((laws_markChangeS.f kj16 t704 1).bind fun bt715 => ((laws_heldChangeS.f kj16 bt715.2 1).bind fun t717 => (if t717 < 0 then (some false) else (if t717 = bt715.1 then ((laws_toPieceS.f kj16 l0).bind fun t718 => ((impl_ChangesOf.f kj16 t718 a1 a2).bind fun t721 => ((laws_eqChangeS.f kj16 t721 t698).bind fun t724 => (if t724 = true then ((laws_heldChangeS.f kj16 bt715.2 1).bind fun t725 => (if t725 < 0 then (some false) else (if t725 = bt715.1 then (some true) else (some false)))) else (some false))))) else (some false))))) = some r := by rw [if_neg (show ¬ (false = true) by decide)] at H; exact H
       clear H
       have H := H1
       clear H1
       replace H := Option.bind_eq_some_iff.mp H
       obtain ⟨⟨t715, t716⟩, A360, H⟩ := H
       replace H : ((laws_heldChangeS.f kj16 t716 1).bind fun t717 => (if t717 < 0 then (some false) else (if t717 = t715 then ((laws_toPieceS.f kj16 l0).bind fun t718 => ((impl_ChangesOf.f kj16 t718 a1 a2).bind fun t721 => ((laws_eqChangeS.f kj16 t721 t698).bind fun t724 => (if t724 = true then ((laws_heldChangeS.f kj16 t716 1).bind fun t725 => (if t725 < 0 then (some false) else (if t725 = t715 then (some true) else (some false)))) else (some false))))) else (some false)))) = some r := H
       have A36 := Aside0.mk A360
       clear A360
       replace H := Option.bind_eq_some_iff.mp H
       obtain ⟨t717, A370, H⟩ := H
       replace H : (if t717 < 0 then (some false) else (if t717 = t715 then ((laws_toPieceS.f kj16 l0).bind fun t718 => ((impl_ChangesOf.f kj16 t718 a1 a2).bind fun t721 => ((laws_eqChangeS.f kj16 t721 t698).bind fun t724 => (if t724 = true then ((laws_heldChangeS.f kj16 t716 1).bind fun t725 => (if t725 < 0 then (some false) else (if t725 = t715 then (some true) else (some false)))) else (some false))))) else (some false))) = some r := H
       have A37 := Aside0.mk A370
       clear A370
       by_cases c38 : t717 < 0
       ·rw [if_pos c38] at H
        have c38b0 : decide (t717 < 0) = true := decide_eq_true c38
        clear c38
        exact absurd H (by subst hrt; decide)
       ·rw [if_neg c38] at H
        have c38b0 : decide (t717 < 0) = false := decide_eq_false c38
        clear c38
        by_cases c41 : t717 = t715
        ·rw [if_pos c41] at H
         have c41b0 : (t717 == t715) = true := beq_iff_eq.mpr c41
         have c41b1 : (t717 != t715) = false := bne_eq_false_iff_eq.mpr c41
         clear c41
         replace H := Option.bind_eq_some_iff.mp H
         obtain ⟨t718, A420, H⟩ := H
         replace H : ((impl_ChangesOf.f kj16 t718 a1 a2).bind fun t721 => ((laws_eqChangeS.f kj16 t721 t698).bind fun t724 => (if t724 = true then ((laws_heldChangeS.f kj16 t716 1).bind fun t725 => (if t725 < 0 then (some false) else (if t725 = t715 then (some true) else (some false)))) else (some false)))) = some r := H
         have A42 := Aside0.mk A420
         clear A420
         replace H := Option.bind_eq_some_iff.mp H
         obtain ⟨t721, A430, H⟩ := H
         replace H : ((laws_eqChangeS.f kj16 t721 t698).bind fun t724 => (if t724 = true then ((laws_heldChangeS.f kj16 t716 1).bind fun t725 => (if t725 < 0 then (some false) else (if t725 = t715 then (some true) else (some false)))) else (some false))) = some r := H
         have A43 := Aside0.mk A430
         clear A430
         replace H := Option.bind_eq_some_iff.mp H
         obtain ⟨t724, A440, H⟩ := H
         replace H : (if t724 = true then ((laws_heldChangeS.f kj16 t716 1).bind fun t725 => (if t725 < 0 then (some false) else (if t725 = t715 then (some true) else (some false)))) else (some false)) = some r := H
         have A44 := Aside0.mk A440
         clear A440
         by_cases c45 : t724 = true
         ·subst c45
          have H1 : ((laws_heldChangeS.f kj16 t716 1).bind fun t725 => (if t725 < 0 then (some false) else (if t725 = t715 then (some true) else (some false)))) = some r := by rw [if_pos rfl] at H; exact H
          clear H
          have H := H1
          clear H1
          replace H := Option.bind_eq_some_iff.mp H
          obtain ⟨t725, A460, H⟩ := H
          replace H : (if t725 < 0 then (some false) else (if t725 = t715 then (some true) else (some false))) = some r := H
          have A46 := Aside0.mk A460
          clear A460
          by_cases c47 : t725 < 0
          ·rw [if_pos c47] at H
           have c47b0 : decide (t725 < 0) = true := decide_eq_true c47
           clear c47
           exact absurd H (by subst hrt; decide)
          ·rw [if_neg c47] at H
           have c47b0 : decide (t725 < 0) = false := decide_eq_false c47
           clear c47
           by_cases c56 : t725 = t715
           ·rw [if_pos c56] at H
            have c56b0 : (t725 == t715) = true := beq_iff_eq.mpr c56
            have c56b1 : (t725 != t715) = false := bne_eq_false_iff_eq.mpr c56
            clear c56
            obtain rfl := Option.some.inj H
            go_wp2_with (first | ((with_reducible refine gate_callee (f := 26) rfl ?_); refine goesL_ (some 53) rfl rfl Tryz.func26 (by kernel_rfl) rfl #[.slice Ao25 t704.length co25, .int .i64 1] rfl sl_ ?_; (with_reducible refine (laws_markChangeS.calls kj16 (fun k_ => some k_ = (.slice Ao25 t704.length co25 : Value).ownBlock) (.slice Ao25 t704.length co25) t704 1 t715 t716 w _ ?side1 ?side2 A36.out).mono ?_); (case side1 => repeat (first | (with_reducible first | exact HB.out | apply below_alloc | apply pw_below_drewN | apply below_drew1) | exact HB.out)); (case side2 => exact Kd.R_tight rfl HO_10.out); rintro e w57 ⟨rfl, hy0, hb, hkp⟩; refine ⟨_, rfl, ?_⟩; replace HO_8 := Aside0.mk (Kd.R_mono (ok' := fun k_ => some k_ ≠ (.slice Ao25 t704.length co25 : Value).ownBlock) (Kd.R_keptB (HO_8.out) hkp (fun k_ hk_ hs_ => (hk_) hs_)) (fun k_ hk_ => hk_.1)); replace HO_10 := Aside0.mk (Kd.R_reok rfl hy0 (fun k_ e_ => HO_10.out.1 k_ e_)); replace HB := Aside0.mk (hb); (try clear hb); (try clear hkp); (try clear hy0)) | ((with_reducible refine gate_callee (f := 27) rfl ?_); refine goesL_ (some 56) rfl rfl Tryz.func27 (by kernel_rfl) rfl #[.slice Ao25 t716.length co25, .int .i64 1] rfl (by (try simp only [List.map_toArray, List.map_cons, List.map_nil]); first | done | (rw [show t716.length = t704.length from (Kd.R_reads' HO_10.out).1.symm] <;> rfl) | rfl | (simp only [List.length_drop, List.length_take]; rfl)) ?_; (with_reducible refine (laws_heldChangeS.calls kj16 _ _ t716 1 t717 _ ?side1 ?side2 A37.out).mono ?_); (case side1 => exact kC_ ((Kd.R_reads' HO_10.out).2.2)); (case side2 => rw [show t716.length = t704.length from (Kd.R_reads' HO_10.out).1.symm]; exact (Kd.R_reads' HO_10.out).2.1); rintro e w58 ⟨rfl, hb⟩; refine ⟨_, rfl, ?_⟩; replace HO_8 := Aside0.mk (Kd.R_below (kR_ HO_8.out) hb); replace HO_10 := Aside0.mk (Kd.R_below (kR_ HO_10.out) hb); replace HB := Aside0.mk (below_step hb_ hb); (try clear hb)) | ((with_reducible refine gate_callee (f := 10) rfl ?_); refine goesL_ (some 63) rfl rfl Tryz.func10 (by kernel_rfl) rfl #[.slice A0 l0.length c0] rfl sl_ ?_; (with_reducible refine (laws_toPieceS.calls kj16 _ _ l0 t718 _ ?side1 ?side2 A42.out).mono ?_); (case side1 => exact kC_ (Kd.C_below HR0.out HB.out)); (case side2 => exact HC0.out); rintro e w59 ⟨v719, rfl, ho0, hb⟩; refine ⟨_, rfl, ?_⟩; replace HO_8 := Aside0.mk (Kd.R_below (kR_ HO_8.out) hb); replace HO_10 := Aside0.mk (Kd.R_below (kR_ HO_10.out) hb); have HO720 := Aside0.mk (Kd.R_lower ho0 (below_size hb_)); replace HB := Aside0.mk (below_step hb_ hb); (try clear hb); (try clear ho0); obtain ⟨Ao60, co60, eo60⟩ := Kd.R_slice HO720.out; subst eo60) | ((with_reducible refine gate_callee (f := 24) rfl ?_); refine goesL_ (some 66) rfl rfl Tryz.func24 (by kernel_rfl) rfl #[.slice Ao60 t718.length co60, .int .i64 a1, .int .i64 a2] rfl sl_ ?_; (with_reducible refine (impl_ChangesOf.calls kj16 _ _ t718 a1 a2 t721 _ ?side1 ?side2 (GT_on hb_ hG) A43.out).mono ?_); (case side1 => exact kC_ ((Kd.R_reads' HO720.out).2.2)); (case side2 => exact (Kd.R_reads' HO720.out).2.1); rintro e w61 ⟨v722, rfl, ho0, hb⟩; refine ⟨_, rfl, ?_⟩; replace HO720 := Aside0.mk (Kd.R_below (kR_ HO720.out) hb); have HO723 := Aside0.mk (Kd.R_lower (Kd.R_new' (Kd.R_new' ho0 (Kd.R_lt (kR_ HO_8.out))) (Kd.R_lt (kR_ HO_10.out))) (below_size hb_)); replace HO_8 := Aside0.mk (Kd.R_elder' (kR_ HO_8.out) (Kd.R_base ho0) hb); replace HO_10 := Aside0.mk (Kd.R_elder' (kR_ HO_10.out) (Kd.R_base ho0) hb); replace HB := Aside0.mk (below_step hb_ hb); (try clear hb); (try clear ho0); obtain ⟨Ao62, co62, eo62⟩ := Kd.R_slice HO723.out; subst eo62) | ((with_reducible refine gate_callee (f := 25) rfl ?_); refine goesL_ (some 69) rfl rfl Tryz.func25 (by kernel_rfl) rfl #[.slice Ao62 t721.length co62, .slice Ao26 t698.length co26] rfl sl_ ?_; (with_reducible refine (laws_eqChangeS.calls kj16 _ _ t721 _ _ t698 true _ ?side1 ?side2 ?side3 ?side4 A44.out).mono ?_); (case side1 => exact kC_ ((Kd.R_reads' HO723.out).2.2)); (case side2 => exact (Kd.R_reads' HO723.out).2.1); (case side3 => exact kC_ ((Kd.R_reads' HO_8.out).2.2)); (case side4 => exact (Kd.R_reads' HO_8.out).2.1); rintro e w63 ⟨rfl, hb⟩; refine ⟨_, rfl, ?_⟩; replace HO_8 := Aside0.mk (Kd.R_below (kR_ HO_8.out) hb); replace HO_10 := Aside0.mk (Kd.R_below (kR_ HO_10.out) hb); replace HO720 := Aside0.mk (Kd.R_below (kR_ HO720.out) hb); replace HO723 := Aside0.mk (Kd.R_below (kR_ HO723.out) hb); replace HB := Aside0.mk (below_step hb_ hb); (try clear hb)) | ((with_reducible refine gate_callee (f := 27) rfl ?_); refine goesL_ (some 73) rfl rfl Tryz.func27 (by kernel_rfl) rfl #[.slice Ao25 t716.length co25, .int .i64 1] rfl (by (try simp only [List.map_toArray, List.map_cons, List.map_nil]); first | done | (rw [show t716.length = t704.length from (Kd.R_reads' HO_10.out).1.symm] <;> rfl) | rfl | (simp only [List.length_drop, List.length_take]; rfl)) ?_; (with_reducible refine (laws_heldChangeS.calls kj16 _ _ t716 1 t725 _ ?side1 ?side2 A46.out).mono ?_); (case side1 => exact kC_ ((Kd.R_reads' HO_10.out).2.2)); (case side2 => rw [show t716.length = t704.length from (Kd.R_reads' HO_10.out).1.symm]; exact (Kd.R_reads' HO_10.out).2.1); rintro e w64 ⟨rfl, hb⟩; refine ⟨_, rfl, ?_⟩; replace HO_8 := Aside0.mk (Kd.R_below (kR_ HO_8.out) hb); replace HO_10 := Aside0.mk (Kd.R_below (kR_ HO_10.out) hb); replace HO720 := Aside0.mk (Kd.R_below (kR_ HO720.out) hb); replace HO723 := Aside0.mk (Kd.R_below (kR_ HO723.out) hb); replace HB := Aside0.mk (below_step hb_ hb); (try clear hb)))
            go_ret
            exact ⟨er_, hb_⟩
           ·rw [if_neg c56] at H
            have c56b0 : (t725 == t715) = false := beq_eq_false_iff_ne.mpr c56
            have c56b1 : (t725 != t715) = true := bne_iff_ne.mpr c56
            obtain rfl := Option.some.inj H
            go_wp2_with (first | ((with_reducible refine gate_callee (f := 26) rfl ?_); refine goesL_ (some 53) rfl rfl Tryz.func26 (by kernel_rfl) rfl #[.slice Ao25 t704.length co25, .int .i64 1] rfl sl_ ?_; (with_reducible refine (laws_markChangeS.calls kj16 (fun k_ => some k_ = (.slice Ao25 t704.length co25 : Value).ownBlock) (.slice Ao25 t704.length co25) t704 1 t715 t716 w _ ?side1 ?side2 A36.out).mono ?_); (case side1 => repeat (first | (with_reducible first | exact HB.out | apply below_alloc | apply pw_below_drewN | apply below_drew1) | exact HB.out)); (case side2 => exact Kd.R_tight rfl HO_10.out); rintro e w65 ⟨rfl, hy0, hb, hkp⟩; refine ⟨_, rfl, ?_⟩; replace HO_8 := Aside0.mk (Kd.R_mono (ok' := fun k_ => some k_ ≠ (.slice Ao25 t704.length co25 : Value).ownBlock) (Kd.R_keptB (HO_8.out) hkp (fun k_ hk_ hs_ => (hk_) hs_)) (fun k_ hk_ => hk_.1)); replace HO_10 := Aside0.mk (Kd.R_reok rfl hy0 (fun k_ e_ => HO_10.out.1 k_ e_)); replace HB := Aside0.mk (hb); (try clear hb); (try clear hkp); (try clear hy0)) | ((with_reducible refine gate_callee (f := 27) rfl ?_); refine goesL_ (some 56) rfl rfl Tryz.func27 (by kernel_rfl) rfl #[.slice Ao25 t716.length co25, .int .i64 1] rfl (by (try simp only [List.map_toArray, List.map_cons, List.map_nil]); first | done | (rw [show t716.length = t704.length from (Kd.R_reads' HO_10.out).1.symm] <;> rfl) | rfl | (simp only [List.length_drop, List.length_take]; rfl)) ?_; (with_reducible refine (laws_heldChangeS.calls kj16 _ _ t716 1 t717 _ ?side1 ?side2 A37.out).mono ?_); (case side1 => exact kC_ ((Kd.R_reads' HO_10.out).2.2)); (case side2 => rw [show t716.length = t704.length from (Kd.R_reads' HO_10.out).1.symm]; exact (Kd.R_reads' HO_10.out).2.1); rintro e w66 ⟨rfl, hb⟩; refine ⟨_, rfl, ?_⟩; replace HO_8 := Aside0.mk (Kd.R_below (kR_ HO_8.out) hb); replace HO_10 := Aside0.mk (Kd.R_below (kR_ HO_10.out) hb); replace HB := Aside0.mk (below_step hb_ hb); (try clear hb)) | ((with_reducible refine gate_callee (f := 10) rfl ?_); refine goesL_ (some 63) rfl rfl Tryz.func10 (by kernel_rfl) rfl #[.slice A0 l0.length c0] rfl sl_ ?_; (with_reducible refine (laws_toPieceS.calls kj16 _ _ l0 t718 _ ?side1 ?side2 A42.out).mono ?_); (case side1 => exact kC_ (Kd.C_below HR0.out HB.out)); (case side2 => exact HC0.out); rintro e w67 ⟨v719, rfl, ho0, hb⟩; refine ⟨_, rfl, ?_⟩; replace HO_8 := Aside0.mk (Kd.R_below (kR_ HO_8.out) hb); replace HO_10 := Aside0.mk (Kd.R_below (kR_ HO_10.out) hb); have HO720 := Aside0.mk (Kd.R_lower ho0 (below_size hb_)); replace HB := Aside0.mk (below_step hb_ hb); (try clear hb); (try clear ho0); obtain ⟨Ao68, co68, eo68⟩ := Kd.R_slice HO720.out; subst eo68) | ((with_reducible refine gate_callee (f := 24) rfl ?_); refine goesL_ (some 66) rfl rfl Tryz.func24 (by kernel_rfl) rfl #[.slice Ao68 t718.length co68, .int .i64 a1, .int .i64 a2] rfl sl_ ?_; (with_reducible refine (impl_ChangesOf.calls kj16 _ _ t718 a1 a2 t721 _ ?side1 ?side2 (GT_on hb_ hG) A43.out).mono ?_); (case side1 => exact kC_ ((Kd.R_reads' HO720.out).2.2)); (case side2 => exact (Kd.R_reads' HO720.out).2.1); rintro e w69 ⟨v722, rfl, ho0, hb⟩; refine ⟨_, rfl, ?_⟩; replace HO720 := Aside0.mk (Kd.R_below (kR_ HO720.out) hb); have HO723 := Aside0.mk (Kd.R_lower (Kd.R_new' (Kd.R_new' ho0 (Kd.R_lt (kR_ HO_8.out))) (Kd.R_lt (kR_ HO_10.out))) (below_size hb_)); replace HO_8 := Aside0.mk (Kd.R_elder' (kR_ HO_8.out) (Kd.R_base ho0) hb); replace HO_10 := Aside0.mk (Kd.R_elder' (kR_ HO_10.out) (Kd.R_base ho0) hb); replace HB := Aside0.mk (below_step hb_ hb); (try clear hb); (try clear ho0); obtain ⟨Ao70, co70, eo70⟩ := Kd.R_slice HO723.out; subst eo70) | ((with_reducible refine gate_callee (f := 25) rfl ?_); refine goesL_ (some 69) rfl rfl Tryz.func25 (by kernel_rfl) rfl #[.slice Ao70 t721.length co70, .slice Ao26 t698.length co26] rfl sl_ ?_; (with_reducible refine (laws_eqChangeS.calls kj16 _ _ t721 _ _ t698 true _ ?side1 ?side2 ?side3 ?side4 A44.out).mono ?_); (case side1 => exact kC_ ((Kd.R_reads' HO723.out).2.2)); (case side2 => exact (Kd.R_reads' HO723.out).2.1); (case side3 => exact kC_ ((Kd.R_reads' HO_8.out).2.2)); (case side4 => exact (Kd.R_reads' HO_8.out).2.1); rintro e w71 ⟨rfl, hb⟩; refine ⟨_, rfl, ?_⟩; replace HO_8 := Aside0.mk (Kd.R_below (kR_ HO_8.out) hb); replace HO_10 := Aside0.mk (Kd.R_below (kR_ HO_10.out) hb); replace HO720 := Aside0.mk (Kd.R_below (kR_ HO720.out) hb); replace HO723 := Aside0.mk (Kd.R_below (kR_ HO723.out) hb); replace HB := Aside0.mk (below_step hb_ hb); (try clear hb)) | ((with_reducible refine gate_callee (f := 27) rfl ?_); refine goesL_ (some 73) rfl rfl Tryz.func27 (by kernel_rfl) rfl #[.slice Ao25 t716.length co25, .int .i64 1] rfl (by (try simp only [List.map_toArray, List.map_cons, List.map_nil]); first | done | (rw [show t716.length = t704.length from (Kd.R_reads' HO_10.out).1.symm] <;> rfl) | rfl | (simp only [List.length_drop, List.length_take]; rfl)) ?_; (with_reducible refine (laws_heldChangeS.calls kj16 _ _ t716 1 t725 _ ?side1 ?side2 A46.out).mono ?_); (case side1 => exact kC_ ((Kd.R_reads' HO_10.out).2.2)); (case side2 => rw [show t716.length = t704.length from (Kd.R_reads' HO_10.out).1.symm]; exact (Kd.R_reads' HO_10.out).2.1); rintro e w72 ⟨rfl, hb⟩; refine ⟨_, rfl, ?_⟩; replace HO_8 := Aside0.mk (Kd.R_below (kR_ HO_8.out) hb); replace HO_10 := Aside0.mk (Kd.R_below (kR_ HO_10.out) hb); replace HO720 := Aside0.mk (Kd.R_below (kR_ HO720.out) hb); replace HO723 := Aside0.mk (Kd.R_below (kR_ HO723.out) hb); replace HB := Aside0.mk (below_step hb_ hb); (try clear hb)))
            go_ret
            exact ⟨er_, hb_⟩
         ·replace c45 := Bool.eq_false_iff.mpr c45
          subst c45
          have H1 : (some false) = some r := by rw [if_neg (show ¬ (false = true) by decide)] at H; exact H
          clear H
          have H := H1
          clear H1
          exact absurd H (by subst hrt; decide)
        ·rw [if_neg c41] at H
         have c41b0 : (t717 == t715) = false := beq_eq_false_iff_ne.mpr c41
         have c41b1 : (t717 != t715) = true := bne_iff_ne.mpr c41
         exact absurd H (by subst hrt; decide)
   ·replace c15 := Bool.eq_false_iff.mpr c15
    subst c15
    have H1 : (some false) = some r := by rw [if_neg (show ¬ (false = true) by decide)] at H; exact H
    clear H
    have H := H1
    clear H1
    exact absurd H (by subst hrt; decide)
  ·replace c12 := Bool.eq_false_iff.mpr c12
   subst c12
   have H1 : (some false) = some r := by rw [if_neg (show ¬ (false = true) by decide)] at H; exact H
   clear H
   have H := H1
   clear H1
   exact absurd H (by subst hrt; decide)
end Go.Proofs.YtjgbidklkhohfaaGreatDoor.P
