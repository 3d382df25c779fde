-- The functions of the seat as plain Lean functions, made by the kit's print.py for all laws at once. Not trusted: Lean checks it.
import Derived.Test.YtcbmkonigclceaaPx0
import Derived.Test.YtcbmkonigclceaaPx1
import Derived.Test.YtcbmkonigclceaaPx2
import Derived.Test.YtcbmkonigclceaaPx9
namespace Go.Proofs.Ytcbmkonigclceaa.P
open Go.RowKit Go.Proofs.YtcbmkonigclceaaW.PrintWords Go.Proofs.YtcbmkonigclceaaW.PrintLast Go.Proofs.YtcbmkonigclceaaW.PrintMore
attribute [local go_sem] max2_int min2_int max_two min_two max_three min_three max_four min_four   -- for this text's walks alone
set_option linter.unusedVariables false
set_option linter.unusedSimpArgs false
/-! ### spec_l20Text: function 73 -/
def spec_l20Text.f (k : Nat) (s0_0 : List Int) (s0_1 : Int) (a1 : Int) : Option (ByteArray × Int) := (spec_l20Rd_odd.f k s0_0 s0_1 a1).bind fun bt279 => (if bt279.1 = true then (if 61 ≤ 281474976710656 then ((some (([(⟨#[10]⟩ : ByteArray), strOfNums (List.replicate 61 0), (⟨#[97, 127]⟩ : ByteArray)] : List ByteArray) : List ByteArray)).bind fun y284 => ((spec_l20Rd_pick.f k s0_0 bt279.2 3).bind fun bt287 => (if 0 ≤ bt287.1 then (if bt287.1 < (y284.length : Int) then (some (rdOf ByteArray.empty y284 bt287.1, bt287.2)) else (none)) else (none)))) else (none)) else ((some (([(⟨#[]⟩ : ByteArray), (⟨#[97]⟩ : ByteArray), (⟨#[104, 101, 108, 108, 111, 32, 119, 111, 114, 108, 100]⟩ : ByteArray), (⟨#[102, 104, 105]⟩ : ByteArray), (⟨#[100]⟩ : ByteArray), (⟨#[114, 101, 100, 32, 103, 114, 101, 101, 110, 32, 114, 101, 100]⟩ : ByteArray), (⟨#[100, 97, 61, 49, 54, 50, 59]⟩ : ByteArray), (⟨#[48, 49, 50, 51, 52, 53, 54, 55, 56, 57, 48, 49, 50, 51, 52, 53, 54, 55, 56, 57, 48, 49, 50, 51, 52, 53, 54, 55, 56, 57, 48, 49, 50, 51, 52, 53, 54, 55, 56, 57, 48, 49, 50, 51, 52, 53, 54, 55, 56, 57, 48, 49, 50, 51, 52, 53, 54, 55, 56, 57]⟩ : ByteArray)] : List ByteArray) : List ByteArray)).bind fun y290 => ((spec_l20Rd_pick.f k s0_0 bt279.2 8).bind fun bt293 => (if 0 ≤ bt293.1 then (if bt293.1 < (y290.length : Int) then (some (rdOf ByteArray.empty y290 bt293.1, bt293.2)) else (none)) else (none)))))
def spec_l20Text.T2 : Bool × List (List Nat × List Nat) := (true, [([], []), ([0], [0]), ([1], [1]), ([], []), ([3], [3]), ([2, 4], [2, 4]), ([5], [5]), ([6, 4, 0, 1, 2, 3, 4, 5, 6], [6])])
def spec_l20Text.B2 : List Nat := [0, 1, 3, 0, 8, 31, 63, 127]
theorem spec_l20Text.tab2 : rtab .any (opsOf Try.f73 2) = spec_l20Text.T2 := by kernel_rfl
theorem spec_l20Text.bits2 : waitsOk spec_l20Text.T2.2 spec_l20Text.B2 = true := by kernel_rfl
set_option maxHeartbeats 8000000 in
set_option maxRecDepth 100000 in
theorem spec_l20Text.calls (k : Nat) (g : Nat) (s0_0 : List Int) (s0_1 : Int) (a1 : Int) (r1 : ByteArray) (r2 : Int) (w0 w : World) (hI : IsS91 w0 w g s0_0 s0_1) (hB : Below w0.heap.size w0 w) (h : spec_l20Text.f k s0_0 s0_1 a1 = some (r1, r2)) :
  Calls Try.prog 73 #[.pointer (some ⟨g, 0, none⟩), .int .i64 a1] w fun e w' => e = .returned (.string r1) ∧ IsS91 w0 w' g s0_0 r2 ∧ Below w0.heap.size w0 w' ∧ KeepBut w w' g none := by
 have HI0 := Aside0.mk hI
 have HK := Aside0.mk (KeepBut.refl w g none)
 have HL := Aside0.mk hB.size
 clear hI
 have HW0 := Aside0.mk hB.size
 have HB := Aside0.mk hB
 clear hB
 have H : ((spec_l20Rd_odd.f k s0_0 s0_1 a1).bind fun bt279 => (if bt279.1 = true then (if 61 ≤ 281474976710656 then ((some (([(⟨#[10]⟩ : ByteArray), strOfNums (List.replicate 61 0), (⟨#[97, 127]⟩ : ByteArray)] : List ByteArray) : List ByteArray)).bind fun y284 => ((spec_l20Rd_pick.f k s0_0 bt279.2 3).bind fun bt287 => (if 0 ≤ bt287.1 then (if bt287.1 < (y284.length : Int) then (some (rdOf ByteArray.empty y284 bt287.1, bt287.2)) else (none)) else (none)))) else (none)) else ((some (([(⟨#[]⟩ : ByteArray), (⟨#[97]⟩ : ByteArray), (⟨#[104, 101, 108, 108, 111, 32, 119, 111, 114, 108, 100]⟩ : ByteArray), (⟨#[102, 104, 105]⟩ : ByteArray), (⟨#[100]⟩ : ByteArray), (⟨#[114, 101, 100, 32, 103, 114, 101, 101, 110, 32, 114, 101, 100]⟩ : ByteArray), (⟨#[100, 97, 61, 49, 54, 50, 59]⟩ : ByteArray), (⟨#[48, 49, 50, 51, 52, 53, 54, 55, 56, 57, 48, 49, 50, 51, 52, 53, 54, 55, 56, 57, 48, 49, 50, 51, 52, 53, 54, 55, 56, 57, 48, 49, 50, 51, 52, 53, 54, 55, 56, 57, 48, 49, 50, 51, 52, 53, 54, 55, 56, 57, 48, 49, 50, 51, 52, 53, 54, 55, 56, 57]⟩ : ByteArray)] : List ByteArray) : List ByteArray)).bind fun y290 => ((spec_l20Rd_pick.f k s0_0 bt279.2 8).bind fun bt293 => (if 0 ≤ bt293.1 then (if bt293.1 < (y290.length : Int) then (some (rdOf ByteArray.empty y290 bt293.1, bt293.2)) else (none)) else (none)))))) = some (r1, r2) := h
 clear h
 replace H := Option.bind_eq_some_iff.mp H
 obtain ⟨⟨t279, t280⟩, A30, H⟩ := H
 replace H : (if t279 = true then (if 61 ≤ 281474976710656 then ((some (([(⟨#[10]⟩ : ByteArray), strOfNums (List.replicate 61 0), (⟨#[97, 127]⟩ : ByteArray)] : List ByteArray) : List ByteArray)).bind fun y284 => ((spec_l20Rd_pick.f k s0_0 t280 3).bind fun bt287 => (if 0 ≤ bt287.1 then (if bt287.1 < (y284.length : Int) then (some (rdOf ByteArray.empty y284 bt287.1, bt287.2)) else (none)) else (none)))) else (none)) else ((some (([(⟨#[]⟩ : ByteArray), (⟨#[97]⟩ : ByteArray), (⟨#[104, 101, 108, 108, 111, 32, 119, 111, 114, 108, 100]⟩ : ByteArray), (⟨#[102, 104, 105]⟩ : ByteArray), (⟨#[100]⟩ : ByteArray), (⟨#[114, 101, 100, 32, 103, 114, 101, 101, 110, 32, 114, 101, 100]⟩ : ByteArray), (⟨#[100, 97, 61, 49, 54, 50, 59]⟩ : ByteArray), (⟨#[48, 49, 50, 51, 52, 53, 54, 55, 56, 57, 48, 49, 50, 51, 52, 53, 54, 55, 56, 57, 48, 49, 50, 51, 52, 53, 54, 55, 56, 57, 48, 49, 50, 51, 52, 53, 54, 55, 56, 57, 48, 49, 50, 51, 52, 53, 54, 55, 56, 57, 48, 49, 50, 51, 52, 53, 54, 55, 56, 57]⟩ : ByteArray)] : List ByteArray) : List ByteArray)).bind fun y290 => ((spec_l20Rd_pick.f k s0_0 t280 8).bind fun bt293 => (if 0 ≤ bt293.1 then (if bt293.1 < (y290.length : Int) then (some (rdOf ByteArray.empty y290 bt293.1, bt293.2)) else (none)) else (none))))) = some (r1, r2) := H
 have A3 := Aside0.mk A30
 clear A30
 by_cases c4 : t279 = true
 ·subst c4
  have H1 : (if 61 ≤ 281474976710656 then ((some (([(⟨#[10]⟩ : ByteArray), strOfNums (List.replicate 61 0), (⟨#[97, 127]⟩ : ByteArray)] : List ByteArray) : List ByteArray)).bind fun y284 => ((spec_l20Rd_pick.f k s0_0 t280 3).bind fun bt287 => (if 0 ≤ bt287.1 then (if bt287.1 < (y284.length : Int) then (some (rdOf ByteArray.empty y284 bt287.1, bt287.2)) else (none)) else (none)))) else (none)) = some (r1, r2) := by rw [if_pos rfl] at H; exact H
  clear H
  have H := H1
  clear H1
  by_cases c5 : 61 ≤ 281474976710656; rotate_left
  ·rw [if_neg c5] at H; exact absurd H (by simp)
  rw [if_pos c5] at H
  have c5b0 := eq_true c5
  have c5b1 : decide (61 ≤ 281474976710656) = true := decide_eq_true c5
  clear c5
  obtain ⟨y281, hy281⟩ : ∃ y_ : List Int, y_ = (List.replicate 61 0) := ⟨_, rfl⟩
  replace H : ((some (([(⟨#[10]⟩ : ByteArray), strOfNums y281, (⟨#[97, 127]⟩ : ByteArray)] : List ByteArray) : List ByteArray)).bind fun y284 => ((spec_l20Rd_pick.f k s0_0 t280 3).bind fun bt287 => (if 0 ≤ bt287.1 then (if bt287.1 < (y284.length : Int) then (some (rdOf ByteArray.empty y284 bt287.1, bt287.2)) else (none)) else (none)))) = some (r1, r2) := hq_ hy281 H
  have Ny281 := Aside0.mk hy281
  clear hy281
  obtain ⟨y284, hy284⟩ : ∃ y_ : List ByteArray, y_ = (([(⟨#[10]⟩ : ByteArray), strOfNums y281, (⟨#[97, 127]⟩ : ByteArray)] : List ByteArray)) := ⟨_, rfl⟩
  replace H : ((spec_l20Rd_pick.f k s0_0 t280 3).bind fun bt287 => (if 0 ≤ bt287.1 then (if bt287.1 < (y284.length : Int) then (some (rdOf ByteArray.empty y284 bt287.1, bt287.2)) else (none)) else (none))) = some (r1, r2) := hq_ hy284 H
  have Ny284 := Aside0.mk hy284
  clear hy284
  replace H := Option.bind_eq_some_iff.mp H
  obtain ⟨⟨t287, t288⟩, A60, H⟩ := H
  replace H : (if 0 ≤ t287 then (if t287 < (y284.length : Int) then (some (rdOf ByteArray.empty y284 t287, t288)) else (none)) else (none)) = some (r1, r2) := H
  have A6 := Aside0.mk A60
  clear A60
  by_cases c7 : 0 ≤ t287; rotate_left
  ·rw [if_neg c7] at H; exact absurd H (by simp)
  rw [if_pos c7] at H
  have c7b0 : decide (0 ≤ t287) = true := decide_eq_true c7
  clear c7
  by_cases c8 : t287 < (y284.length : Int); rotate_left
  ·rw [if_neg c8] at H; exact absurd H (by simp)
  rw [if_pos c8] at H
  have c8b0 : decide (t287 < (y284.length : Int)) = true := decide_eq_true c8
  clear c8
  simp only [Option.some.injEq, Prod.mk.injEq] at H
  obtain ⟨rfl, rfl⟩ := H
  go_enter Try.func73, Try.ntmps73
  try go_wp2_with (first | ((with_reducible refine gate_callee (f := 74) rfl ?_); refine gl_ (some 7) Try.func74 #[.pointer (some ⟨g, 0, none⟩), .int .i64 a1] ?_; (with_reducible refine (spec_l20Rd_odd.calls k g s0_0 s0_1 a1 true t280 w0 _ ?side1 ?side2 A3.out).mono ?_); (case side1 => repeat (first | (with_reducible first | exact HI0.out | apply IsS91.alloc | apply IsS91.drewN | apply IsS91.drew | apply IsS91.set_1) | exact HI0.out)); (case side2 => exact hs_ (IsS91.ge HI0.out)); rintro e w9 ⟨rfl, hi, hb, hk⟩; refine ⟨_, rfl, ?_⟩; replace HK := Aside0.mk (KeepBut.trans hK0_ hk (.inl rfl)); replace HB := Aside0.mk (hb); replace HI0 := Aside0.mk (hi); (try clear hb); (try clear hk); (try clear hi)))
  have pi289 : (0 ≤ (t287 : Int)) = True := eq_true (dt_)
  have qi289 : (t287 < (y284.length : Int)) = True := eq_true (dt_)
  replace HI0 := Aside0.mk (IsS91.drew HI0.out)
  replace HK := Aside0.mk (keep_drew HK.out)
  replace HB := Aside0.mk (below_drew1 HB.out)
  refine start_ (n := 8) (S := fun w' => True) (ds := []) (tf_ 0 8) (by kernel_rfl) rfl rfl trivial (fun hHeld => ?_); refine with_tabW spec_l20Text.tab2 spec_l20Text.bits2 (fun HT_ HW_ => ?_)
  generalize w9.drew = w10 at HI0 HK HB hHeld ⊢
  refine pa_ (i := 3) (N := some 11) (tb_ 8 8) ?_
  refine join_ (σ := Value × Value × Addr) 3 (tf_ 5 3) (fun s_ => [(8, s_.1), (9, .string (strOfNums y281)), (10, s_.2.1), (12, .int .i64 t287)]) (fun s_ w' => (Kd.R (Kd.int .u8) 5 w' w.heap.size (fun _ => True) s_.1 y281) ∧ (Kd.R Kd.string 9 w' w.heap.size (fun _ => True) s_.2.1 y284) ∧ (∃ c_, (s_.2.1 : Value) = .slice (some s_.2.2) y284.length c_) ∧ (IsS91 w0 w' g s0_0 t288) ∧ (KeepBut w w' g none) ∧ (Below w0.heap.size w0 w')) ?_ ?_
  rotate_left
  ·intro hCont
   refine two_ (i := 0) (j := 4) (Ni := some 8) (Nj := some 12) (tb_ 8 9) (tb_ 8 24) rfl rfl rfl rfl (two_of HT_.out (by kernel_rfl)) (by decide) (by decide) (fun K hK => ?_) (fun K hK => ?_)
   ·skip
    refine Kd.R_make_step (Kd.int .u8) _ 5 (by rfl) (N := 8) rfl 34 _ _ rfl 61 rfl rfl Try.underlying34 (.int .u8 0) 1 info5 rfl (by decide) (by omega) 0 (ok := fun _ => True) (okp := fun _ => True) rfl (fun _ hk => hk) trivial (by omega) (by omega) (Below.refl _ _) (Nat.le_refl _) ?_
    intro v282 w11 ho12 hb hg_ hnew_
    clear hg_ hnew_
    (first | rw [← Ny281.out] at ho12 | (simp only [Int.reduceToNat] at ho12; rw [← Ny281.out] at ho12))
    have HO283 := Aside0.mk (Kd.R_lower ho12 (keep_size (w := w) (g := g) (row := none) hK0_))
    replace HK := Aside0.mk (KeepBut.trans hK0_ (KeepBut.of_below hb g none) (.inl rfl))
    replace HB := Aside0.mk (below_step (hs_ (IsS91.ge HI0.out)) hb)
    replace HI0 := Aside0.mk (IsS91.below (by repeat (first | (with_reducible first | exact HI0.out | apply IsS91.alloc | apply IsS91.drewN | apply IsS91.drew | apply IsS91.set_1) | exact HI0.out)) hb)
    clear hb ho12
    refine hK.out _ _ trivial (fun hHeld => ?_)
    clear hK K
    refine norm_ (a' := ?_) ?_ ?_
    rotate_left
    ·show Act.put _ (some 8) _ = _
     simp only [Act.put, List.setIfInBounds_toArray, List.set_cons_zero, List.set_cons_succ, i64_w, i32_w]
     rfl
    refine two_ (i := 1) (j := 4) (Ni := some 9) (Nj := some 12) (tb_ 8 11) (tb_ 8 25) rfl rfl rfl rfl (two_of HT_.out (by kernel_rfl)) (by decide) (by decide) (fun K hK => ?_) (fun K hK => ?_)
    ·skip
     have hcv13 := own_string (P := Try.prog) Try.underlying34 Try.underlying5 Try.underlying9 (Kd.own_of_R HO283.out)
     refine value_ (w1 := ?_) (v := ?_) (by rfl) rfl ?_ ?_
     rotate_left 2
     ·go_simp
      constructor
      ·rfl
      ·rfl
     clear hcv13
     refine hK.out _ _ trivial (fun hHeld => ?_)
     clear hK K
     refine norm_ (a' := ?_) ?_ ?_
     rotate_left
     ·show Act.put _ (some 9) _ = _
      simp only [Act.put, List.setIfInBounds_toArray, List.set_cons_zero, List.set_cons_succ, i64_w, i32_w]
      rfl
     refine two_ (i := 2) (j := 4) (Ni := some 10) (Nj := some 12) (tf_ 4 4) (tb_ 8 27) rfl rfl rfl rfl (two_of HT_.out (by kernel_rfl)) (by decide) (by decide) (fun K hK => ?_) (fun K hK => ?_)
     ·skip
      refine Kd.R_lit_step Kd.string _ 9 ?hg (N := 10) ?hd (xs := ([(⟨#[10]⟩ : ByteArray), strOfNums y281, (⟨#[97, 127]⟩ : ByteArray)] : List ByteArray)) (inner := [.string (⟨#[10]⟩ : ByteArray), .string (strOfNums y281), .string (⟨#[97, 127]⟩ : ByteArray)]) (ok := fun _ => True) (okp := fun _ => True) ?hr ?hp (fun _ hk => hk) trivial (Below.refl _ _) (Nat.le_refl _) (by simp) ?_; (case hd => rfl); (case hg => rfl); (case hr => first | (go_simp; done) | (go_simp; rfl)); (case hp => exact (Reps.one (show Kd.M Kd.string _ _ _ (⟨#[10]⟩ : ByteArray) [.string (⟨#[10]⟩ : ByteArray)] from rfl) (Reps.one (show Kd.M Kd.string _ _ _ (strOfNums y281) [.string (strOfNums y281)] from rfl) (Reps.one (show Kd.M Kd.string _ _ _ (⟨#[97, 127]⟩ : ByteArray) [.string (⟨#[97, 127]⟩ : ByteArray)] from rfl) (Reps.none _ _)))))
      intro v285 w14 ho15 hb hg_ hnew_
      clear hg_ hnew_
      (first | rw [← Ny284.out] at ho15 | (simp only [Int.reduceToNat] at ho15; rw [← Ny284.out] at ho15))
      replace HO283 := Aside0.mk (Kd.R_below (kR_ HO283.out) hb)
      have HO286 := Aside0.mk (Kd.R_lower ho15 (keep_size (w := w) (g := g) (row := none) hK0_))
      replace HK := Aside0.mk (KeepBut.trans hK0_ (KeepBut.of_below hb g none) (.inl rfl))
      replace HB := Aside0.mk (below_step (hs_ (IsS91.ge HI0.out)) hb)
      replace HI0 := Aside0.mk (IsS91.below (by repeat (first | (with_reducible first | exact HI0.out | apply IsS91.alloc | apply IsS91.drewN | apply IsS91.drew | apply IsS91.set_1) | exact HI0.out)) hb)
      clear hb ho15
      obtain ⟨Ao16, co16, eo16⟩ := Kd.R_slice HO286.out
      subst eo16
      obtain ⟨ado16, fo16, _⟩ := Kd.at_string (Kd.R_reads' HO286.out).2.2 0 (by decide) (by rw [Ny284.out]; simp)
      cases fo16
      refine hK.out _ _ trivial (fun hHeld => ?_)
      clear hK K
      refine norm_ (a' := ?_) ?_ ?_
      rotate_left
      ·show Act.put _ (some 10) _ = _
       simp only [Act.put, List.setIfInBounds_toArray, List.set_cons_zero, List.set_cons_succ, i64_w, i32_w]
       rfl
      refine one_ (i := 4) (N := some 12) (tf_ 5 3) rfl rfl (one_of HT_.out (by kernel_rfl)) (by decide) (fun K hK => ?_)
      refine goes_ Try.func70 (by kernel_rfl) rfl #[.pointer (some ⟨g, 0, none⟩), .int .i64 3] (by rfl) rfl rfl sl_ ?_
      with_reducible refine (spec_l20Rd_pick.calls k g s0_0 t280 3 t287 t288 w0 _ ?side1 ?side2 A6.out).mono ?_
      (case side1 => repeat (first | (with_reducible first | exact HI0.out | apply IsS91.alloc | apply IsS91.drewN | apply IsS91.drew | apply IsS91.set_1) | exact HI0.out))
      (case side2 => exact hs_ (IsS91.ge HI0.out))
      rintro e w17 ⟨rfl, hi, hb, hk⟩
      refine ⟨_, rfl, ?_⟩
      replace HO283 := Aside0.mk (Kd.R_mono (Kd.R_keep (IsS91.apart (show IsS91 w0 _ g s0_0 t280 from by repeat (first | (with_reducible first | exact HI0.out | apply IsS91.alloc | apply IsS91.drewN | apply IsS91.drew | apply IsS91.set_1) | exact HI0.out)) (kR_ HO283.out) (by decide)) hk (fun _ h => h.2)) (fun _ h => h.1))
      replace HO286 := Aside0.mk (Kd.R_mono (Kd.R_keep (IsS91.apart (show IsS91 w0 _ g s0_0 t280 from by repeat (first | (with_reducible first | exact HI0.out | apply IsS91.alloc | apply IsS91.drewN | apply IsS91.drew | apply IsS91.set_1) | exact HI0.out)) (kR_ HO286.out) (by decide)) hk (fun _ h => h.2)) (fun _ h => h.1))
      replace HK := Aside0.mk (KeepBut.trans hK0_ hk (.inl rfl))
      replace HB := Aside0.mk (hb)
      replace HI0 := Aside0.mk (hi)
      (try clear hb)
      (try clear hb2)
      (try clear hk)
      (try clear hi)
      refine hK.out _ _ trivial (fun hHeld => ?_)
      clear hK K
      refine norm_ (a' := ?_) ?_ ?_
      rotate_left
      ·show Act.put _ (some 12) _ = _
       simp only [Act.put, List.setIfInBounds_toArray, List.set_cons_zero, List.set_cons_succ, i64_w, i32_w]
       rfl
      exact norm_ (by simp only [putAll, Act.put, List.setIfInBounds_toArray, List.set_cons_zero, List.set_cons_succ]) (hCont (v282, .slice (some ado16) y284.length co16, ado16) _ ⟨(kR_ HO283.out), (kR_ HO286.out), ⟨_, rfl⟩, (by repeat (first | (with_reducible first | exact HI0.out | apply IsS91.alloc | apply IsS91.drewN | apply IsS91.drew | apply IsS91.set_1) | exact HI0.out)), hK0_, (hs_ (IsS91.ge HI0.out))⟩)
     ·skip
      refine goes_ Try.func70 (by kernel_rfl) rfl #[.pointer (some ⟨g, 0, none⟩), .int .i64 3] (by rfl) rfl rfl sl_ ?_
      with_reducible refine (spec_l20Rd_pick.calls k g s0_0 t280 3 t287 t288 w0 _ ?side1 ?side2 A6.out).mono ?_
      (case side1 => repeat (first | (with_reducible first | exact HI0.out | apply IsS91.alloc | apply IsS91.drewN | apply IsS91.drew | apply IsS91.set_1) | exact HI0.out))
      (case side2 => exact hs_ (IsS91.ge HI0.out))
      rintro e w14 ⟨rfl, hi, hb, hk⟩
      refine ⟨_, rfl, ?_⟩
      replace HO283 := Aside0.mk (Kd.R_mono (Kd.R_keep (IsS91.apart (show IsS91 w0 _ g s0_0 t280 from by repeat (first | (with_reducible first | exact HI0.out | apply IsS91.alloc | apply IsS91.drewN | apply IsS91.drew | apply IsS91.set_1) | exact HI0.out)) (kR_ HO283.out) (by decide)) hk (fun _ h => h.2)) (fun _ h => h.1))
      replace HK := Aside0.mk (KeepBut.trans hK0_ hk (.inl rfl))
      replace HB := Aside0.mk (hb)
      replace HI0 := Aside0.mk (hi)
      (try clear hb)
      (try clear hb2)
      (try clear hk)
      (try clear hi)
      refine hK.out _ _ trivial (fun hHeld => ?_)
      clear hK K
      refine norm_ (a' := ?_) ?_ ?_
      rotate_left
      ·show Act.put _ (some 12) _ = _
       simp only [Act.put, List.setIfInBounds_toArray, List.set_cons_zero, List.set_cons_succ, i64_w, i32_w]
       rfl
      refine one_ (i := 2) (N := some 10) (tf_ 5 3) rfl rfl (one_of HT_.out (by kernel_rfl)) (by decide) (fun K hK => ?_)
      refine Kd.R_lit_step Kd.string _ 9 ?hg (N := 10) ?hd (xs := ([(⟨#[10]⟩ : ByteArray), strOfNums y281, (⟨#[97, 127]⟩ : ByteArray)] : List ByteArray)) (inner := [.string (⟨#[10]⟩ : ByteArray), .string (strOfNums y281), .string (⟨#[97, 127]⟩ : ByteArray)]) (ok := fun _ => True) (okp := fun _ => True) ?hr ?hp (fun _ hk => hk) trivial (Below.refl _ _) (Nat.le_refl _) (by simp) ?_; (case hd => rfl); (case hg => rfl); (case hr => first | (go_simp; done) | (go_simp; rfl)); (case hp => exact (Reps.one (show Kd.M Kd.string _ _ _ (⟨#[10]⟩ : ByteArray) [.string (⟨#[10]⟩ : ByteArray)] from rfl) (Reps.one (show Kd.M Kd.string _ _ _ (strOfNums y281) [.string (strOfNums y281)] from rfl) (Reps.one (show Kd.M Kd.string _ _ _ (⟨#[97, 127]⟩ : ByteArray) [.string (⟨#[97, 127]⟩ : ByteArray)] from rfl) (Reps.none _ _)))))
      intro v285 w15 ho16 hb hg_ hnew_
      clear hg_ hnew_
      (first | rw [← Ny284.out] at ho16 | (simp only [Int.reduceToNat] at ho16; rw [← Ny284.out] at ho16))
      replace HO283 := Aside0.mk (Kd.R_below (kR_ HO283.out) hb)
      have HO286 := Aside0.mk (Kd.R_lower ho16 (keep_size (w := w) (g := g) (row := none) hK0_))
      replace HK := Aside0.mk (KeepBut.trans hK0_ (KeepBut.of_below hb g none) (.inl rfl))
      replace HB := Aside0.mk (below_step (hs_ (IsS91.ge HI0.out)) hb)
      replace HI0 := Aside0.mk (IsS91.below (by repeat (first | (with_reducible first | exact HI0.out | apply IsS91.alloc | apply IsS91.drewN | apply IsS91.drew | apply IsS91.set_1) | exact HI0.out)) hb)
      clear hb ho16
      obtain ⟨Ao17, co17, eo17⟩ := Kd.R_slice HO286.out
      subst eo17
      obtain ⟨ado17, fo17, _⟩ := Kd.at_string (Kd.R_reads' HO286.out).2.2 0 (by decide) (by rw [Ny284.out]; simp)
      cases fo17
      refine hK.out _ _ trivial (fun hHeld => ?_)
      clear hK K
      refine norm_ (a' := ?_) ?_ ?_
      rotate_left
      ·show Act.put _ (some 10) _ = _
       simp only [Act.put, List.setIfInBounds_toArray, List.set_cons_zero, List.set_cons_succ, i64_w, i32_w]
       rfl
      exact norm_ (by simp only [putAll, Act.put, List.setIfInBounds_toArray, List.set_cons_zero, List.set_cons_succ]) (hCont (v282, .slice (some ado17) y284.length co17, ado17) _ ⟨(kR_ HO283.out), (kR_ HO286.out), ⟨_, rfl⟩, (by repeat (first | (with_reducible first | exact HI0.out | apply IsS91.alloc | apply IsS91.drewN | apply IsS91.drew | apply IsS91.set_1) | exact HI0.out)), hK0_, (hs_ (IsS91.ge HI0.out))⟩)
    ·skip
     refine goes_ Try.func70 (by kernel_rfl) rfl #[.pointer (some ⟨g, 0, none⟩), .int .i64 3] (by rfl) rfl rfl sl_ ?_
     with_reducible refine (spec_l20Rd_pick.calls k g s0_0 t280 3 t287 t288 w0 _ ?side1 ?side2 A6.out).mono ?_
     (case side1 => repeat (first | (with_reducible first | exact HI0.out | apply IsS91.alloc | apply IsS91.drewN | apply IsS91.drew | apply IsS91.set_1) | exact HI0.out))
     (case side2 => exact hs_ (IsS91.ge HI0.out))
     rintro e w13 ⟨rfl, hi, hb, hk⟩
     refine ⟨_, rfl, ?_⟩
     replace HO283 := Aside0.mk (Kd.R_mono (Kd.R_keep (IsS91.apart (show IsS91 w0 _ g s0_0 t280 from by repeat (first | (with_reducible first | exact HI0.out | apply IsS91.alloc | apply IsS91.drewN | apply IsS91.drew | apply IsS91.set_1) | exact HI0.out)) (kR_ HO283.out) (by decide)) hk (fun _ h => h.2)) (fun _ h => h.1))
     replace HK := Aside0.mk (KeepBut.trans hK0_ hk (.inl rfl))
     replace HB := Aside0.mk (hb)
     replace HI0 := Aside0.mk (hi)
     (try clear hb)
     (try clear hb2)
     (try clear hk)
     (try clear hi)
     refine hK.out _ _ trivial (fun hHeld => ?_)
     clear hK K
     refine norm_ (a' := ?_) ?_ ?_
     rotate_left
     ·show Act.put _ (some 12) _ = _
      simp only [Act.put, List.setIfInBounds_toArray, List.set_cons_zero, List.set_cons_succ, i64_w, i32_w]
      rfl
     refine one_ (i := 1) (N := some 9) (tb_ 8 27) rfl rfl (one_of HT_.out (by kernel_rfl)) (by decide) (fun K hK => ?_)
     have hcv14 := own_string (P := Try.prog) Try.underlying34 Try.underlying5 Try.underlying9 (Kd.own_of_R HO283.out)
     refine value_ (w1 := ?_) (v := ?_) (by rfl) rfl ?_ ?_
     rotate_left 2
     ·go_simp
      constructor
      ·rfl
      ·rfl
     clear hcv14
     refine hK.out _ _ trivial (fun hHeld => ?_)
     clear hK K
     refine norm_ (a' := ?_) ?_ ?_
     rotate_left
     ·show Act.put _ (some 9) _ = _
      simp only [Act.put, List.setIfInBounds_toArray, List.set_cons_zero, List.set_cons_succ, i64_w, i32_w]
      rfl
     refine one_ (i := 2) (N := some 10) (tf_ 5 3) rfl rfl (one_of HT_.out (by kernel_rfl)) (by decide) (fun K hK => ?_)
     refine Kd.R_lit_step Kd.string _ 9 ?hg (N := 10) ?hd (xs := ([(⟨#[10]⟩ : ByteArray), strOfNums y281, (⟨#[97, 127]⟩ : ByteArray)] : List ByteArray)) (inner := [.string (⟨#[10]⟩ : ByteArray), .string (strOfNums y281), .string (⟨#[97, 127]⟩ : ByteArray)]) (ok := fun _ => True) (okp := fun _ => True) ?hr ?hp (fun _ hk => hk) trivial (Below.refl _ _) (Nat.le_refl _) (by simp) ?_; (case hd => rfl); (case hg => rfl); (case hr => first | (go_simp; done) | (go_simp; rfl)); (case hp => exact (Reps.one (show Kd.M Kd.string _ _ _ (⟨#[10]⟩ : ByteArray) [.string (⟨#[10]⟩ : ByteArray)] from rfl) (Reps.one (show Kd.M Kd.string _ _ _ (strOfNums y281) [.string (strOfNums y281)] from rfl) (Reps.one (show Kd.M Kd.string _ _ _ (⟨#[97, 127]⟩ : ByteArray) [.string (⟨#[97, 127]⟩ : ByteArray)] from rfl) (Reps.none _ _)))))
     intro v285 w15 ho16 hb hg_ hnew_
     clear hg_ hnew_
     (first | rw [← Ny284.out] at ho16 | (simp only [Int.reduceToNat] at ho16; rw [← Ny284.out] at ho16))
     replace HO283 := Aside0.mk (Kd.R_below (kR_ HO283.out) hb)
     have HO286 := Aside0.mk (Kd.R_lower ho16 (keep_size (w := w) (g := g) (row := none) hK0_))
     replace HK := Aside0.mk (KeepBut.trans hK0_ (KeepBut.of_below hb g none) (.inl rfl))
     replace HB := Aside0.mk (below_step (hs_ (IsS91.ge HI0.out)) hb)
     replace HI0 := Aside0.mk (IsS91.below (by repeat (first | (with_reducible first | exact HI0.out | apply IsS91.alloc | apply IsS91.drewN | apply IsS91.drew | apply IsS91.set_1) | exact HI0.out)) hb)
     clear hb ho16
     obtain ⟨Ao17, co17, eo17⟩ := Kd.R_slice HO286.out
     subst eo17
     obtain ⟨ado17, fo17, _⟩ := Kd.at_string (Kd.R_reads' HO286.out).2.2 0 (by decide) (by rw [Ny284.out]; simp)
     cases fo17
     refine hK.out _ _ trivial (fun hHeld => ?_)
     clear hK K
     refine norm_ (a' := ?_) ?_ ?_
     rotate_left
     ·show Act.put _ (some 10) _ = _
      simp only [Act.put, List.setIfInBounds_toArray, List.set_cons_zero, List.set_cons_succ, i64_w, i32_w]
      rfl
     exact norm_ (by simp only [putAll, Act.put, List.setIfInBounds_toArray, List.set_cons_zero, List.set_cons_succ]) (hCont (v282, .slice (some ado17) y284.length co17, ado17) _ ⟨(kR_ HO283.out), (kR_ HO286.out), ⟨_, rfl⟩, (by repeat (first | (with_reducible first | exact HI0.out | apply IsS91.alloc | apply IsS91.drewN | apply IsS91.drew | apply IsS91.set_1) | exact HI0.out)), hK0_, (hs_ (IsS91.ge HI0.out))⟩)
   ·skip
    refine goes_ Try.func70 (by kernel_rfl) rfl #[.pointer (some ⟨g, 0, none⟩), .int .i64 3] (by rfl) rfl rfl sl_ ?_
    with_reducible refine (spec_l20Rd_pick.calls k g s0_0 t280 3 t287 t288 w0 _ ?side1 ?side2 A6.out).mono ?_
    (case side1 => repeat (first | (with_reducible first | exact HI0.out | apply IsS91.alloc | apply IsS91.drewN | apply IsS91.drew | apply IsS91.set_1) | exact HI0.out))
    (case side2 => exact hs_ (IsS91.ge HI0.out))
    rintro e w11 ⟨rfl, hi, hb, hk⟩
    refine ⟨_, rfl, ?_⟩
    replace HK := Aside0.mk (KeepBut.trans hK0_ hk (.inl rfl))
    replace HB := Aside0.mk (hb)
    replace HI0 := Aside0.mk (hi)
    (try clear hb)
    (try clear hb2)
    (try clear hk)
    (try clear hi)
    refine hK.out _ _ trivial (fun hHeld => ?_)
    clear hK K
    refine norm_ (a' := ?_) ?_ ?_
    rotate_left
    ·show Act.put _ (some 12) _ = _
     simp only [Act.put, List.setIfInBounds_toArray, List.set_cons_zero, List.set_cons_succ, i64_w, i32_w]
     rfl
    refine one_ (i := 0) (N := some 8) (tb_ 8 25) rfl rfl (one_of HT_.out (by kernel_rfl)) (by decide) (fun K hK => ?_)
    refine Kd.R_make_step (Kd.int .u8) _ 5 (by rfl) (N := 8) rfl 34 _ _ rfl 61 rfl rfl Try.underlying34 (.int .u8 0) 1 info5 rfl (by decide) (by omega) 0 (ok := fun _ => True) (okp := fun _ => True) rfl (fun _ hk => hk) trivial (by omega) (by omega) (Below.refl _ _) (Nat.le_refl _) ?_
    intro v282 w12 ho13 hb hg_ hnew_
    clear hg_ hnew_
    (first | rw [← Ny281.out] at ho13 | (simp only [Int.reduceToNat] at ho13; rw [← Ny281.out] at ho13))
    have HO283 := Aside0.mk (Kd.R_lower ho13 (keep_size (w := w) (g := g) (row := none) hK0_))
    replace HK := Aside0.mk (KeepBut.trans hK0_ (KeepBut.of_below hb g none) (.inl rfl))
    replace HB := Aside0.mk (below_step (hs_ (IsS91.ge HI0.out)) hb)
    replace HI0 := Aside0.mk (IsS91.below (by repeat (first | (with_reducible first | exact HI0.out | apply IsS91.alloc | apply IsS91.drewN | apply IsS91.drew | apply IsS91.set_1) | exact HI0.out)) hb)
    clear hb ho13
    refine hK.out _ _ trivial (fun hHeld => ?_)
    clear hK K
    refine norm_ (a' := ?_) ?_ ?_
    rotate_left
    ·show Act.put _ (some 8) _ = _
     simp only [Act.put, List.setIfInBounds_toArray, List.set_cons_zero, List.set_cons_succ, i64_w, i32_w]
     rfl
    refine one_ (i := 1) (N := some 9) (tb_ 8 27) rfl rfl (one_of HT_.out (by kernel_rfl)) (by decide) (fun K hK => ?_)
    have hcv14 := own_string (P := Try.prog) Try.underlying34 Try.underlying5 Try.underlying9 (Kd.own_of_R HO283.out)
    refine value_ (w1 := ?_) (v := ?_) (by rfl) rfl ?_ ?_
    rotate_left 2
    ·go_simp
     constructor
     ·rfl
     ·rfl
    clear hcv14
    refine hK.out _ _ trivial (fun hHeld => ?_)
    clear hK K
    refine norm_ (a' := ?_) ?_ ?_
    rotate_left
    ·show Act.put _ (some 9) _ = _
     simp only [Act.put, List.setIfInBounds_toArray, List.set_cons_zero, List.set_cons_succ, i64_w, i32_w]
     rfl
    refine one_ (i := 2) (N := some 10) (tf_ 5 3) rfl rfl (one_of HT_.out (by kernel_rfl)) (by decide) (fun K hK => ?_)
    refine Kd.R_lit_step Kd.string _ 9 ?hg (N := 10) ?hd (xs := ([(⟨#[10]⟩ : ByteArray), strOfNums y281, (⟨#[97, 127]⟩ : ByteArray)] : List ByteArray)) (inner := [.string (⟨#[10]⟩ : ByteArray), .string (strOfNums y281), .string (⟨#[97, 127]⟩ : ByteArray)]) (ok := fun _ => True) (okp := fun _ => True) ?hr ?hp (fun _ hk => hk) trivial (Below.refl _ _) (Nat.le_refl _) (by simp) ?_; (case hd => rfl); (case hg => rfl); (case hr => first | (go_simp; done) | (go_simp; rfl)); (case hp => exact (Reps.one (show Kd.M Kd.string _ _ _ (⟨#[10]⟩ : ByteArray) [.string (⟨#[10]⟩ : ByteArray)] from rfl) (Reps.one (show Kd.M Kd.string _ _ _ (strOfNums y281) [.string (strOfNums y281)] from rfl) (Reps.one (show Kd.M Kd.string _ _ _ (⟨#[97, 127]⟩ : ByteArray) [.string (⟨#[97, 127]⟩ : ByteArray)] from rfl) (Reps.none _ _)))))
    intro v285 w15 ho16 hb hg_ hnew_
    clear hg_ hnew_
    (first | rw [← Ny284.out] at ho16 | (simp only [Int.reduceToNat] at ho16; rw [← Ny284.out] at ho16))
    replace HO283 := Aside0.mk (Kd.R_below (kR_ HO283.out) hb)
    have HO286 := Aside0.mk (Kd.R_lower ho16 (keep_size (w := w) (g := g) (row := none) hK0_))
    replace HK := Aside0.mk (KeepBut.trans hK0_ (KeepBut.of_below hb g none) (.inl rfl))
    replace HB := Aside0.mk (below_step (hs_ (IsS91.ge HI0.out)) hb)
    replace HI0 := Aside0.mk (IsS91.below (by repeat (first | (with_reducible first | exact HI0.out | apply IsS91.alloc | apply IsS91.drewN | apply IsS91.drew | apply IsS91.set_1) | exact HI0.out)) hb)
    clear hb ho16
    obtain ⟨Ao17, co17, eo17⟩ := Kd.R_slice HO286.out
    subst eo17
    obtain ⟨ado17, fo17, _⟩ := Kd.at_string (Kd.R_reads' HO286.out).2.2 0 (by decide) (by rw [Ny284.out]; simp)
    cases fo17
    refine hK.out _ _ trivial (fun hHeld => ?_)
    clear hK K
    refine norm_ (a' := ?_) ?_ ?_
    rotate_left
    ·show Act.put _ (some 10) _ = _
     simp only [Act.put, List.setIfInBounds_toArray, List.set_cons_zero, List.set_cons_succ, i64_w, i32_w]
     rfl
    exact norm_ (by simp only [putAll, Act.put, List.setIfInBounds_toArray, List.set_cons_zero, List.set_cons_succ]) (hCont (v282, .slice (some ado17) y284.length co17, ado17) _ ⟨(kR_ HO283.out), (kR_ HO286.out), ⟨_, rfl⟩, (by repeat (first | (with_reducible first | exact HI0.out | apply IsS91.alloc | apply IsS91.drewN | apply IsS91.drew | apply IsS91.set_1) | exact HI0.out)), hK0_, (hs_ (IsS91.ge HI0.out))⟩)
  rintro ⟨v282, v285, adz_v285⟩ w18 ⟨h0_, h1_, h2_, h3_, h4_, h5_⟩
  have n0_ : Aside0 (Kd.R (Kd.int .u8) 5 w18 w.heap.size (fun _ => True) v282 y281) := ⟨h0_⟩
  have n1_ : Aside0 (Kd.R Kd.string 9 w18 w.heap.size (fun _ => True) v285 y284) := ⟨h1_⟩
  have n2_ : Aside0 (∃ c_, (v285 : Value) = .slice (some adz_v285) y284.length c_) := ⟨h2_⟩
  have n3_ : Aside0 (IsS91 w0 w18 g s0_0 t288) := ⟨h3_⟩
  have n4_ : Aside0 (KeepBut w w18 g none) := ⟨h4_⟩
  have n5_ : Aside0 (Below w0.heap.size w0 w18) := ⟨h5_⟩
  clear HI0
  clear HK
  clear HB
  clear h0_ h1_ h2_ h3_ h4_ h5_
  have HO283 := n0_
  have HO286 := n1_
  have HA_HO286 := n2_
  have HI0 := n3_
  have HK := n4_
  have HB := n5_
  clear n0_ n1_ n2_ n3_ n4_ n5_
  have hHeld := trivial
  obtain ⟨co19, eo19⟩ := HA_HO286.out
  clear HA_HO286
  subst eo19
  refine norm_ (a' := ?_) ?_ ?_
  rotate_left
  ·simp only [putAll, Act.put, List.setIfInBounds_toArray, List.set_cons_zero, List.set_cons_succ]
   rfl
  refine paA_ 5 13 6 2 ?_
  refine one_ (i := 6) (N := some 14) (tf_ 7 1) rfl rfl (one_of HT_.out (by kernel_rfl)) (by decide) (fun K hK => ?_)
  (have p289 : 0 ≤ (t287 : Int) := dt_; have q289 : t287 < (y284.length : Int) := dt_; obtain ⟨ad289, e289, hx289_0⟩ := Kd.at_string (Kd.R_reads' HO286.out).2.2 t287 p289 q289; obtain rfl : adz_v285 = ad289 := (by injection e289))
  refine value_ (w1 := ?_) (v := ?_) (by rfl) rfl ?_ ?_
  rotate_left 2
  ·go_simp
   constructor
   ·rfl
   ·rfl
  clear hx289_0
  refine hK.out _ _ trivial (fun hHeld => ?_)
  clear hK K
  refine norm_ (a' := ?_) ?_ ?_
  rotate_left
  ·show Act.put _ (some 14) _ = _
   simp only [Act.put, List.setIfInBounds_toArray, List.set_cons_zero, List.set_cons_succ, i64_w, i32_w]
   rfl
  refine paA_ 7 4 8 0 ?_
  refine done_ (done_of HT_.out (by kernel_rfl)) ?_
  try go_wp2
  go_ret
  exact ⟨er_, by repeat (first | (with_reducible first | exact HI0.out | apply IsS91.alloc | apply IsS91.drewN | apply IsS91.drew | apply IsS91.set_1) | exact HI0.out), hs_ (IsS91.ge HI0.out), by repeat (first | (with_reducible first | exact HK.out | apply KeepBut.set_ | apply keep_drewN | apply keep_drew | apply keep_alloc) | exact HK.out)⟩
 ·replace c4 := Bool.eq_false_iff.mpr c4
  subst c4
  have H1 : ((some (([(⟨#[]⟩ : ByteArray), (⟨#[97]⟩ : ByteArray), (⟨#[104, 101, 108, 108, 111, 32, 119, 111, 114, 108, 100]⟩ : ByteArray), (⟨#[102, 104, 105]⟩ : ByteArray), (⟨#[100]⟩ : ByteArray), (⟨#[114, 101, 100, 32, 103, 114, 101, 101, 110, 32, 114, 101, 100]⟩ : ByteArray), (⟨#[100, 97, 61, 49, 54, 50, 59]⟩ : ByteArray), (⟨#[48, 49, 50, 51, 52, 53, 54, 55, 56, 57, 48, 49, 50, 51, 52, 53, 54, 55, 56, 57, 48, 49, 50, 51, 52, 53, 54, 55, 56, 57, 48, 49, 50, 51, 52, 53, 54, 55, 56, 57, 48, 49, 50, 51, 52, 53, 54, 55, 56, 57, 48, 49, 50, 51, 52, 53, 54, 55, 56, 57]⟩ : ByteArray)] : List ByteArray) : List ByteArray)).bind fun y290 => ((spec_l20Rd_pick.f k s0_0 t280 8).bind fun bt293 => (if 0 ≤ bt293.1 then (if bt293.1 < (y290.length : Int) then (some (rdOf ByteArray.empty y290 bt293.1, bt293.2)) else (none)) else (none)))) = some (r1, r2) := by rw [if_neg (show ¬ (false = true) by decide)] at H; exact H
  clear H
  have H := H1
  clear H1
  obtain ⟨y290, hy290⟩ : ∃ y_ : List ByteArray, y_ = (([(⟨#[]⟩ : ByteArray), (⟨#[97]⟩ : ByteArray), (⟨#[104, 101, 108, 108, 111, 32, 119, 111, 114, 108, 100]⟩ : ByteArray), (⟨#[102, 104, 105]⟩ : ByteArray), (⟨#[100]⟩ : ByteArray), (⟨#[114, 101, 100, 32, 103, 114, 101, 101, 110, 32, 114, 101, 100]⟩ : ByteArray), (⟨#[100, 97, 61, 49, 54, 50, 59]⟩ : ByteArray), (⟨#[48, 49, 50, 51, 52, 53, 54, 55, 56, 57, 48, 49, 50, 51, 52, 53, 54, 55, 56, 57, 48, 49, 50, 51, 52, 53, 54, 55, 56, 57, 48, 49, 50, 51, 52, 53, 54, 55, 56, 57, 48, 49, 50, 51, 52, 53, 54, 55, 56, 57, 48, 49, 50, 51, 52, 53, 54, 55, 56, 57]⟩ : ByteArray)] : List ByteArray)) := ⟨_, rfl⟩
  replace H : ((spec_l20Rd_pick.f k s0_0 t280 8).bind fun bt293 => (if 0 ≤ bt293.1 then (if bt293.1 < (y290.length : Int) then (some (rdOf ByteArray.empty y290 bt293.1, bt293.2)) else (none)) else (none))) = some (r1, r2) := hq_ hy290 H
  have Ny290 := Aside0.mk hy290
  clear hy290
  replace H := Option.bind_eq_some_iff.mp H
  obtain ⟨⟨t293, t294⟩, A200, H⟩ := H
  replace H : (if 0 ≤ t293 then (if t293 < (y290.length : Int) then (some (rdOf ByteArray.empty y290 t293, t294)) else (none)) else (none)) = some (r1, r2) := H
  have A20 := Aside0.mk A200
  clear A200
  by_cases c21 : 0 ≤ t293; rotate_left
  ·rw [if_neg c21] at H; exact absurd H (by simp)
  rw [if_pos c21] at H
  have c21b0 : decide (0 ≤ t293) = true := decide_eq_true c21
  clear c21
  by_cases c22 : t293 < (y290.length : Int); rotate_left
  ·rw [if_neg c22] at H; exact absurd H (by simp)
  rw [if_pos c22] at H
  have c22b0 : decide (t293 < (y290.length : Int)) = true := decide_eq_true c22
  clear c22
  simp only [Option.some.injEq, Prod.mk.injEq] at H
  obtain ⟨rfl, rfl⟩ := H
  go_enter Try.func73, Try.ntmps73
  go_wp2_with (first | ((with_reducible refine gate_callee (f := 74) rfl ?_); refine gl_ (some 7) Try.func74 #[.pointer (some ⟨g, 0, none⟩), .int .i64 a1] ?_; (with_reducible refine (spec_l20Rd_odd.calls k g s0_0 s0_1 a1 false t280 w0 _ ?side1 ?side2 A3.out).mono ?_); (case side1 => repeat (first | (with_reducible first | exact HI0.out | apply IsS91.alloc | apply IsS91.drewN | apply IsS91.drew | apply IsS91.set_1) | exact HI0.out)); (case side2 => exact hs_ (IsS91.ge HI0.out)); rintro e w23 ⟨rfl, hi, hb, hk⟩; refine ⟨_, rfl, ?_⟩; replace HK := Aside0.mk (KeepBut.trans hK0_ hk (.inl rfl)); replace HB := Aside0.mk (hb); replace HI0 := Aside0.mk (hi); (try clear hb); (try clear hk); (try clear hi)) | ((with_reducible refine gate_dst (N := 15) rfl ?_); refine Kd.R_lit Kd.string _ 9 ?hg (N := 15) ?hd (xs := ([(⟨#[]⟩ : ByteArray), (⟨#[97]⟩ : ByteArray), (⟨#[104, 101, 108, 108, 111, 32, 119, 111, 114, 108, 100]⟩ : ByteArray), (⟨#[102, 104, 105]⟩ : ByteArray), (⟨#[100]⟩ : ByteArray), (⟨#[114, 101, 100, 32, 103, 114, 101, 101, 110, 32, 114, 101, 100]⟩ : ByteArray), (⟨#[100, 97, 61, 49, 54, 50, 59]⟩ : ByteArray), (⟨#[48, 49, 50, 51, 52, 53, 54, 55, 56, 57, 48, 49, 50, 51, 52, 53, 54, 55, 56, 57, 48, 49, 50, 51, 52, 53, 54, 55, 56, 57, 48, 49, 50, 51, 52, 53, 54, 55, 56, 57, 48, 49, 50, 51, 52, 53, 54, 55, 56, 57, 48, 49, 50, 51, 52, 53, 54, 55, 56, 57]⟩ : ByteArray)] : List ByteArray)) (inner := [.string (⟨#[]⟩ : ByteArray), .string (⟨#[97]⟩ : ByteArray), .string (⟨#[104, 101, 108, 108, 111, 32, 119, 111, 114, 108, 100]⟩ : ByteArray), .string (⟨#[102, 104, 105]⟩ : ByteArray), .string (⟨#[100]⟩ : ByteArray), .string (⟨#[114, 101, 100, 32, 103, 114, 101, 101, 110, 32, 114, 101, 100]⟩ : ByteArray), .string (⟨#[100, 97, 61, 49, 54, 50, 59]⟩ : ByteArray), .string (⟨#[48, 49, 50, 51, 52, 53, 54, 55, 56, 57, 48, 49, 50, 51, 52, 53, 54, 55, 56, 57, 48, 49, 50, 51, 52, 53, 54, 55, 56, 57, 48, 49, 50, 51, 52, 53, 54, 55, 56, 57, 48, 49, 50, 51, 52, 53, 54, 55, 56, 57, 48, 49, 50, 51, 52, 53, 54, 55, 56, 57]⟩ : ByteArray)]) (ok := fun _ => True) (okp := fun _ => True) ?hr ?hp (fun _ hk => hk) trivial (Below.refl _ _) (Nat.le_refl _) (by simp) ?_; (case hd => rfl); (case hg => rfl); (case hr => first | (go_simp; done) | (go_simp; rfl)); (case hp => exact (Reps.one (show Kd.M Kd.string _ _ _ (⟨#[]⟩ : ByteArray) [.string (⟨#[]⟩ : ByteArray)] from rfl) (Reps.one (show Kd.M Kd.string _ _ _ (⟨#[97]⟩ : ByteArray) [.string (⟨#[97]⟩ : ByteArray)] from rfl) (Reps.one (show Kd.M Kd.string _ _ _ (⟨#[104, 101, 108, 108, 111, 32, 119, 111, 114, 108, 100]⟩ : ByteArray) [.string (⟨#[104, 101, 108, 108, 111, 32, 119, 111, 114, 108, 100]⟩ : ByteArray)] from rfl) (Reps.one (show Kd.M Kd.string _ _ _ (⟨#[102, 104, 105]⟩ : ByteArray) [.string (⟨#[102, 104, 105]⟩ : ByteArray)] from rfl) (Reps.one (show Kd.M Kd.string _ _ _ (⟨#[100]⟩ : ByteArray) [.string (⟨#[100]⟩ : ByteArray)] from rfl) (Reps.one (show Kd.M Kd.string _ _ _ (⟨#[114, 101, 100, 32, 103, 114, 101, 101, 110, 32, 114, 101, 100]⟩ : ByteArray) [.string (⟨#[114, 101, 100, 32, 103, 114, 101, 101, 110, 32, 114, 101, 100]⟩ : ByteArray)] from rfl) (Reps.one (show Kd.M Kd.string _ _ _ (⟨#[100, 97, 61, 49, 54, 50, 59]⟩ : ByteArray) [.string (⟨#[100, 97, 61, 49, 54, 50, 59]⟩ : ByteArray)] from rfl) (Reps.one (show Kd.M Kd.string _ _ _ (⟨#[48, 49, 50, 51, 52, 53, 54, 55, 56, 57, 48, 49, 50, 51, 52, 53, 54, 55, 56, 57, 48, 49, 50, 51, 52, 53, 54, 55, 56, 57, 48, 49, 50, 51, 52, 53, 54, 55, 56, 57, 48, 49, 50, 51, 52, 53, 54, 55, 56, 57, 48, 49, 50, 51, 52, 53, 54, 55, 56, 57]⟩ : ByteArray) [.string (⟨#[48, 49, 50, 51, 52, 53, 54, 55, 56, 57, 48, 49, 50, 51, 52, 53, 54, 55, 56, 57, 48, 49, 50, 51, 52, 53, 54, 55, 56, 57, 48, 49, 50, 51, 52, 53, 54, 55, 56, 57, 48, 49, 50, 51, 52, 53, 54, 55, 56, 57, 48, 49, 50, 51, 52, 53, 54, 55, 56, 57]⟩ : ByteArray)] from rfl) (Reps.none _ _)))))))))); intro v291 w24 ho25 hb hg_ hnew_; clear hg_ hnew_; (first | rw [← Ny290.out] at ho25 | (simp only [Int.reduceToNat] at ho25; rw [← Ny290.out] at ho25)); have HO292 := Aside0.mk (Kd.R_lower ho25 (keep_size (w := w) (g := g) (row := none) hK0_)); replace HK := Aside0.mk (KeepBut.trans hK0_ (KeepBut.of_below hb g none) (.inl rfl)); replace HB := Aside0.mk (below_step (hs_ (IsS91.ge HI0.out)) hb); replace HI0 := Aside0.mk (IsS91.below (by repeat (first | (with_reducible first | exact HI0.out | apply IsS91.alloc | apply IsS91.drewN | apply IsS91.drew | apply IsS91.set_1) | exact HI0.out)) hb); clear hb ho25) | ((with_reducible refine gate_callee (f := 70) rfl ?_); refine gl_ (some 17) Try.func70 #[.pointer (some ⟨g, 0, none⟩), .int .i64 8] ?_; (with_reducible refine (spec_l20Rd_pick.calls k g s0_0 t280 8 t293 t294 w0 _ ?side1 ?side2 A20.out).mono ?_); (case side1 => repeat (first | (with_reducible first | exact HI0.out | apply IsS91.alloc | apply IsS91.drewN | apply IsS91.drew | apply IsS91.set_1) | exact HI0.out)); (case side2 => exact hs_ (IsS91.ge HI0.out)); rintro e w26 ⟨rfl, hi, hb, hk⟩; refine ⟨_, rfl, ?_⟩; replace HO292 := Aside0.mk (Kd.R_mono (Kd.R_keep (IsS91.apart (show IsS91 w0 _ g s0_0 t280 from by repeat (first | (with_reducible first | exact HI0.out | apply IsS91.alloc | apply IsS91.drewN | apply IsS91.drew | apply IsS91.set_1) | exact HI0.out)) (kR_ HO292.out) (by decide)) hk (fun _ h => h.2)) (fun _ h => h.1)); replace HK := Aside0.mk (KeepBut.trans hK0_ hk (.inl rfl)); replace HB := Aside0.mk (hb); replace HI0 := Aside0.mk (hi); (try clear hb); (try clear hk); (try clear hi); obtain ⟨Ao27, co27, eo27⟩ := Kd.R_slice HO292.out; subst eo27; have p295 : 0 ≤ (t293 : Int) := dt_; have q295 : t293 < (y290.length : Int) := dt_; obtain ⟨ad295, e295, hx295_0⟩ := Kd.at_string (Kd.R_reads' HO292.out).2.2 t293 p295 q295; cases e295; replace p295 := eq_true p295; replace q295 := eq_true q295))
  go_ret
  exact ⟨er_, by repeat (first | (with_reducible first | exact HI0.out | apply IsS91.alloc | apply IsS91.drewN | apply IsS91.drew | apply IsS91.set_1) | exact HI0.out), hs_ (IsS91.ge HI0.out), by repeat (first | (with_reducible first | exact HK.out | apply KeepBut.set_ | apply keep_drewN | apply keep_drew | apply keep_alloc) | exact HK.out)⟩
/-! ### impl_PutText: function 56 -/
def impl_PutText.f (k : Nat) (l0 : List (S65)) (a1 : ByteArray) : Option ((List (S65)) × Int × Bool) := (impl_StoreValid.f k l0).bind fun t748 => (if t748 = true then ((impl_TextValid.f k a1).bind fun t749 => (if t749 = true then ((impl_PrintOf.f k a1).bind fun t753 => ((impl_findPiece.f k l0 t753).bind fun bt754 => (if bt754.2 = true then (if 0 ≤ bt754.1 then (if bt754.1 < (l0.length : Int) then (if ((rd_T65 l0 bt754.1).f1).toList = a1.toList then ((slices_Clone_Piece.f l0).bind fun t757 => (some (t757, t753, true))) else ((slices_Clone_Piece.f l0).bind fun t760 => (some (t760, (-1), false)))) else (none)) else (none)) else (if (l0.length : Int) = 40 then ((slices_Clone_Piece.f l0).bind fun t763 => (some (t763, (-1), false))) else ((slices_Clone_Piece.f l0).bind fun t766 => ((slices_Insert_Piece.f t766 bt754.1 (([(⟨t753, a1⟩ : S65)] : List (S65)))).bind fun t772 => (some (t772, t753, true)))))))) else ((slices_Clone_Piece.f l0).bind fun t750 => (some (t750, (-1), false))))) else (some (([] : List (S65)), (-1), false)))
set_option maxHeartbeats 8000000 in
set_option maxRecDepth 100000 in
theorem impl_PutText.calls (k : Nat) (A0 : Option Addr) (c0 : Nat) (l0 : List (S65)) (a1 : ByteArray) (r1 : List (S65)) (r2 : Int) (r3 : Bool) (w : World) (hr0 : Kd.C k65 w A0 l0.length l0) (hc0 : l0.length ≤ c0) (h : impl_PutText.f k l0 a1 = some (r1, r2, r3)) :
  Calls Try.prog 56 #[.slice A0 l0.length c0, .string a1] w fun e w' => ∃ v0_ : Value, e = .returned (.tuple #[v0_, .int .i64 r2, .bool r3]) ∧ Kd.R k65 65 w' w.heap.size (fun _ => True) v0_ r1 ∧ Below w.heap.size w w' := by
 have hu65 := Try.underlying65
 have HR0 := Aside0.mk hr0
 have HC0 := Aside0.mk hc0
 clear hr0 hc0
 have HB := Aside0.mk (Below.refl w.heap.size w)
 have H : ((impl_StoreValid.f k l0).bind fun t748 => (if t748 = true then ((impl_TextValid.f k a1).bind fun t749 => (if t749 = true then ((impl_PrintOf.f k a1).bind fun t753 => ((impl_findPiece.f k l0 t753).bind fun bt754 => (if bt754.2 = true then (if 0 ≤ bt754.1 then (if bt754.1 < (l0.length : Int) then (if ((rd_T65 l0 bt754.1).f1).toList = a1.toList then ((slices_Clone_Piece.f l0).bind fun t757 => (some (t757, t753, true))) else ((slices_Clone_Piece.f l0).bind fun t760 => (some (t760, (-1), false)))) else (none)) else (none)) else (if (l0.length : Int) = 40 then ((slices_Clone_Piece.f l0).bind fun t763 => (some (t763, (-1), false))) else ((slices_Clone_Piece.f l0).bind fun t766 => ((slices_Insert_Piece.f t766 bt754.1 (([(⟨t753, a1⟩ : S65)] : List (S65)))).bind fun t772 => (some (t772, t753, true)))))))) else ((slices_Clone_Piece.f l0).bind fun t750 => (some (t750, (-1), false))))) else (some (([] : List (S65)), (-1), false)))) = some (r1, r2, r3) := h
 clear h
 replace H := Option.bind_eq_some_iff.mp H
 obtain ⟨t748, A30, H⟩ := H
 replace H : (if t748 = true then ((impl_TextValid.f k a1).bind fun t749 => (if t749 = true then ((impl_PrintOf.f k a1).bind fun t753 => ((impl_findPiece.f k l0 t753).bind fun bt754 => (if bt754.2 = true then (if 0 ≤ bt754.1 then (if bt754.1 < (l0.length : Int) then (if ((rd_T65 l0 bt754.1).f1).toList = a1.toList then ((slices_Clone_Piece.f l0).bind fun t757 => (some (t757, t753, true))) else ((slices_Clone_Piece.f l0).bind fun t760 => (some (t760, (-1), false)))) else (none)) else (none)) else (if (l0.length : Int) = 40 then ((slices_Clone_Piece.f l0).bind fun t763 => (some (t763, (-1), false))) else ((slices_Clone_Piece.f l0).bind fun t766 => ((slices_Insert_Piece.f t766 bt754.1 (([(⟨t753, a1⟩ : S65)] : List (S65)))).bind fun t772 => (some (t772, t753, true)))))))) else ((slices_Clone_Piece.f l0).bind fun t750 => (some (t750, (-1), false))))) else (some (([] : List (S65)), (-1), false))) = some (r1, r2, r3) := H
 have A3 := Aside0.mk A30
 clear A30
 by_cases c4 : t748 = true
 ·subst c4
  have H1 : ((impl_TextValid.f k a1).bind fun t749 => (if t749 = true then ((impl_PrintOf.f k a1).bind fun t753 => ((impl_findPiece.f k l0 t753).bind fun bt754 => (if bt754.2 = true then (if 0 ≤ bt754.1 then (if bt754.1 < (l0.length : Int) then (if ((rd_T65 l0 bt754.1).f1).toList = a1.toList then ((slices_Clone_Piece.f l0).bind fun t757 => (some (t757, t753, true))) else ((slices_Clone_Piece.f l0).bind fun t760 => (some (t760, (-1), false)))) else (none)) else (none)) else (if (l0.length : Int) = 40 then ((slices_Clone_Piece.f l0).bind fun t763 => (some (t763, (-1), false))) else ((slices_Clone_Piece.f l0).bind fun t766 => ((slices_Insert_Piece.f t766 bt754.1 (([(⟨t753, a1⟩ : S65)] : List (S65)))).bind fun t772 => (some (t772, t753, true)))))))) else ((slices_Clone_Piece.f l0).bind fun t750 => (some (t750, (-1), false))))) = some (r1, r2, r3) := by rw [if_pos rfl] at H; exact H
  clear H
  have H := H1
  clear H1
  replace H := Option.bind_eq_some_iff.mp H
  obtain ⟨t749, A50, H⟩ := H
  replace H : (if t749 = true then ((impl_PrintOf.f k a1).bind fun t753 => ((impl_findPiece.f k l0 t753).bind fun bt754 => (if bt754.2 = true then (if 0 ≤ bt754.1 then (if bt754.1 < (l0.length : Int) then (if ((rd_T65 l0 bt754.1).f1).toList = a1.toList then ((slices_Clone_Piece.f l0).bind fun t757 => (some (t757, t753, true))) else ((slices_Clone_Piece.f l0).bind fun t760 => (some (t760, (-1), false)))) else (none)) else (none)) else (if (l0.length : Int) = 40 then ((slices_Clone_Piece.f l0).bind fun t763 => (some (t763, (-1), false))) else ((slices_Clone_Piece.f l0).bind fun t766 => ((slices_Insert_Piece.f t766 bt754.1 (([(⟨t753, a1⟩ : S65)] : List (S65)))).bind fun t772 => (some (t772, t753, true)))))))) else ((slices_Clone_Piece.f l0).bind fun t750 => (some (t750, (-1), false)))) = some (r1, r2, r3) := H
  have A5 := Aside0.mk A50
  clear A50
  by_cases c6 : t749 = true
  ·subst c6
   have H1 : ((impl_PrintOf.f k a1).bind fun t753 => ((impl_findPiece.f k l0 t753).bind fun bt754 => (if bt754.2 = true then (if 0 ≤ bt754.1 then (if bt754.1 < (l0.length : Int) then (if ((rd_T65 l0 bt754.1).f1).toList = a1.toList then ((slices_Clone_Piece.f l0).bind fun t757 => (some (t757, t753, true))) else ((slices_Clone_Piece.f l0).bind fun t760 => (some (t760, (-1), false)))) else (none)) else (none)) else (if (l0.length : Int) = 40 then ((slices_Clone_Piece.f l0).bind fun t763 => (some (t763, (-1), false))) else ((slices_Clone_Piece.f l0).bind fun t766 => ((slices_Insert_Piece.f t766 bt754.1 (([(⟨t753, a1⟩ : S65)] : List (S65)))).bind fun t772 => (some (t772, t753, true)))))))) = some (r1, r2, r3) := by rw [if_pos rfl] at H; exact H
   clear H
   have H := H1
   clear H1
   replace H := Option.bind_eq_some_iff.mp H
   obtain ⟨t753, A70, H⟩ := H
   replace H : ((impl_findPiece.f k l0 t753).bind fun bt754 => (if bt754.2 = true then (if 0 ≤ bt754.1 then (if bt754.1 < (l0.length : Int) then (if ((rd_T65 l0 bt754.1).f1).toList = a1.toList then ((slices_Clone_Piece.f l0).bind fun t757 => (some (t757, t753, true))) else ((slices_Clone_Piece.f l0).bind fun t760 => (some (t760, (-1), false)))) else (none)) else (none)) else (if (l0.length : Int) = 40 then ((slices_Clone_Piece.f l0).bind fun t763 => (some (t763, (-1), false))) else ((slices_Clone_Piece.f l0).bind fun t766 => ((slices_Insert_Piece.f t766 bt754.1 (([(⟨t753, a1⟩ : S65)] : List (S65)))).bind fun t772 => (some (t772, t753, true))))))) = some (r1, r2, r3) := H
   have A7 := Aside0.mk A70
   clear A70
   replace H := Option.bind_eq_some_iff.mp H
   obtain ⟨⟨t754, t755⟩, A80, H⟩ := H
   replace H : (if t755 = true then (if 0 ≤ t754 then (if t754 < (l0.length : Int) then (if ((rd_T65 l0 t754).f1).toList = a1.toList then ((slices_Clone_Piece.f l0).bind fun t757 => (some (t757, t753, true))) else ((slices_Clone_Piece.f l0).bind fun t760 => (some (t760, (-1), false)))) else (none)) else (none)) else (if (l0.length : Int) = 40 then ((slices_Clone_Piece.f l0).bind fun t763 => (some (t763, (-1), false))) else ((slices_Clone_Piece.f l0).bind fun t766 => ((slices_Insert_Piece.f t766 t754 (([(⟨t753, a1⟩ : S65)] : List (S65)))).bind fun t772 => (some (t772, t753, true)))))) = some (r1, r2, r3) := H
   have A8 := Aside0.mk A80
   clear A80
   by_cases c9 : t755 = true
   ·subst c9
    have H1 : (if 0 ≤ t754 then (if t754 < (l0.length : Int) then (if ((rd_T65 l0 t754).f1).toList = a1.toList then ((slices_Clone_Piece.f l0).bind fun t757 => (some (t757, t753, true))) else ((slices_Clone_Piece.f l0).bind fun t760 => (some (t760, (-1), false)))) else (none)) else (none)) = some (r1, r2, r3) := by rw [if_pos rfl] at H; exact H
    clear H
    have H := H1
    clear H1
    by_cases c10 : 0 ≤ t754; rotate_left
    ·rw [if_neg c10] at H; exact absurd H (by simp)
    rw [if_pos c10] at H
    have c10b0 : decide (0 ≤ t754) = true := decide_eq_true c10
    clear c10
    by_cases c11 : t754 < (l0.length : Int); rotate_left
    ·rw [if_neg c11] at H; exact absurd H (by simp)
    rw [if_pos c11] at H
    have c11b0 : decide (t754 < (l0.length : Int)) = true := decide_eq_true c11
    clear c11
    by_cases c12 : ((rd_T65 l0 t754).f1).toList = a1.toList
    ·rw [if_pos c12] at H
     have c12b0 : (((rd_T65 l0 t754).f1).toList == a1.toList) = true := beq_iff_eq.mpr c12
     have c12b1 : (((rd_T65 l0 t754).f1).toList != a1.toList) = false := bne_eq_false_iff_eq.mpr c12
     clear c12
     replace H := Option.bind_eq_some_iff.mp H
     obtain ⟨t757, A130, H⟩ := H
     replace H : (some (t757, t753, true)) = some (r1, r2, r3) := H
     have A13 := Aside0.mk A130
     clear A130
     simp only [Option.some.injEq, Prod.mk.injEq] at H
     obtain ⟨rfl, rfl, rfl⟩ := H
     go_enter Try.func56, Try.ntmps56
     go_wp2_with (first | ((with_reducible refine gate_callee (f := 53) rfl ?_); refine gl_ (some 11) Try.func53 #[.slice A0 l0.length c0] ?_; (with_reducible refine (impl_StoreValid.calls k _ _ l0 true _ ?side1 ?side2 A3.out).mono ?_); (case side1 => exact kC_ HR0.out); (case side2 => exact HC0.out); rintro e w14 ⟨rfl, hb⟩; refine ⟨_, rfl, ?_⟩; replace HB := Aside0.mk (below_step hb_ hb); (try clear hb)) | ((with_reducible refine gate_callee (f := 68) rfl ?_); refine gl_ (some 14) Try.func68 #[.string a1] ?_; (with_reducible refine (impl_TextValid.calls k a1 true _ A5.out).mono ?_); rintro e w' ⟨rfl, ⟨nd, rfl⟩⟩; refine ⟨_, rfl, ?_⟩) | ((with_reducible refine gate_callee (f := 52) rfl ?_); refine gl_ (some 19) Try.func52 #[.string a1] ?_; (with_reducible refine (impl_PrintOf.calls k a1 t753 _ A7.out).mono ?_); rintro e w' ⟨rfl, ⟨nd, rfl⟩⟩; refine ⟨_, rfl, ?_⟩) | ((with_reducible refine gate_callee (f := 81) rfl ?_); refine gl_ (some 23) Try.func81 #[.slice A0 l0.length c0, .int .i64 t753] ?_; (with_reducible refine (impl_findPiece.calls k _ _ l0 t753 t754 true _ ?side1 ?side2 A8.out).mono ?_); (case side1 => exact kC_ (Kd.C_below HR0.out hb_)); (case side2 => exact HC0.out); rintro e w15 ⟨rfl, hb⟩; refine ⟨_, rfl, ?_⟩; replace HB := Aside0.mk (below_step hb_ hb); (try clear hb); have p756 : 0 ≤ (t754 : Int) := dt_; have q756 : t754 < (l0.length : Int) := dt_; obtain ⟨ad756, e756, hx756_0, hx756_1⟩ := at_T65 HR0.out t754 p756 q756; cases e756; replace hx756_0 := cb_ HB.out hx756_0; replace hx756_1 := cb_ HB.out hx756_1; replace p756 := eq_true p756; replace q756 := eq_true q756) | ((with_reducible refine gate_callee (f := 80) rfl ?_); refine gl_ (some 37) Try.func80 #[.slice (some ad756) l0.length c0] ?_; (with_reducible refine (slices_Clone_Piece.calls _ _ l0 t757 _ ?side1 ?side2 A13.out).mono ?_); (case side1 => exact kC_ (Kd.C_below HR0.out HB.out)); (case side2 => exact HC0.out); rintro e w16 ⟨v758, rfl, ho0, hb⟩; refine ⟨_, rfl, ?_⟩; have HO759 := Aside0.mk (Kd.R_lower ho0 (below_size hb_)); replace HB := Aside0.mk (below_step hb_ hb); (try clear hb); (try clear ho0)))
     go_ret3
     exact ⟨_, er_, by refine kR_ ?_; exact HO759.out, hb_⟩
    ·rw [if_neg c12] at H
     have c12b0 : (((rd_T65 l0 t754).f1).toList == a1.toList) = false := beq_eq_false_iff_ne.mpr c12
     have c12b1 : (((rd_T65 l0 t754).f1).toList != a1.toList) = true := bne_iff_ne.mpr c12
     replace H := Option.bind_eq_some_iff.mp H
     obtain ⟨t760, A170, H⟩ := H
     replace H : (some (t760, (-1), false)) = some (r1, r2, r3) := H
     have A17 := Aside0.mk A170
     clear A170
     simp only [Option.some.injEq, Prod.mk.injEq] at H
     obtain ⟨rfl, rfl, rfl⟩ := H
     go_enter Try.func56, Try.ntmps56
     go_wp2_with (first | ((with_reducible refine gate_callee (f := 53) rfl ?_); refine gl_ (some 11) Try.func53 #[.slice A0 l0.length c0] ?_; (with_reducible refine (impl_StoreValid.calls k _ _ l0 true _ ?side1 ?side2 A3.out).mono ?_); (case side1 => exact kC_ HR0.out); (case side2 => exact HC0.out); rintro e w18 ⟨rfl, hb⟩; refine ⟨_, rfl, ?_⟩; replace HB := Aside0.mk (below_step hb_ hb); (try clear hb)) | ((with_reducible refine gate_callee (f := 68) rfl ?_); refine gl_ (some 14) Try.func68 #[.string a1] ?_; (with_reducible refine (impl_TextValid.calls k a1 true _ A5.out).mono ?_); rintro e w' ⟨rfl, ⟨nd, rfl⟩⟩; refine ⟨_, rfl, ?_⟩) | ((with_reducible refine gate_callee (f := 52) rfl ?_); refine gl_ (some 19) Try.func52 #[.string a1] ?_; (with_reducible refine (impl_PrintOf.calls k a1 t753 _ A7.out).mono ?_); rintro e w' ⟨rfl, ⟨nd, rfl⟩⟩; refine ⟨_, rfl, ?_⟩) | ((with_reducible refine gate_callee (f := 81) rfl ?_); refine gl_ (some 23) Try.func81 #[.slice A0 l0.length c0, .int .i64 t753] ?_; (with_reducible refine (impl_findPiece.calls k _ _ l0 t753 t754 true _ ?side1 ?side2 A8.out).mono ?_); (case side1 => exact kC_ (Kd.C_below HR0.out hb_)); (case side2 => exact HC0.out); rintro e w19 ⟨rfl, hb⟩; refine ⟨_, rfl, ?_⟩; replace HB := Aside0.mk (below_step hb_ hb); (try clear hb); have p756 : 0 ≤ (t754 : Int) := dt_; have q756 : t754 < (l0.length : Int) := dt_; obtain ⟨ad756, e756, hx756_0, hx756_1⟩ := at_T65 HR0.out t754 p756 q756; cases e756; replace hx756_0 := cb_ HB.out hx756_0; replace hx756_1 := cb_ HB.out hx756_1; replace p756 := eq_true p756; replace q756 := eq_true q756) | ((with_reducible refine gate_callee (f := 80) rfl ?_); refine gl_ (some 35) Try.func80 #[.slice (some ad756) l0.length c0] ?_; (with_reducible refine (slices_Clone_Piece.calls _ _ l0 t760 _ ?side1 ?side2 A17.out).mono ?_); (case side1 => exact kC_ (Kd.C_below HR0.out HB.out)); (case side2 => exact HC0.out); rintro e w20 ⟨v761, rfl, ho0, hb⟩; refine ⟨_, rfl, ?_⟩; have HO762 := Aside0.mk (Kd.R_lower ho0 (below_size hb_)); replace HB := Aside0.mk (below_step hb_ hb); (try clear hb); (try clear ho0)))
     go_ret3
     exact ⟨_, er_, by refine kR_ ?_; exact HO762.out, hb_⟩
   ·replace c9 := Bool.eq_false_iff.mpr c9
    subst c9
    have H1 : (if (l0.length : Int) = 40 then ((slices_Clone_Piece.f l0).bind fun t763 => (some (t763, (-1), false))) else ((slices_Clone_Piece.f l0).bind fun t766 => ((slices_Insert_Piece.f t766 t754 (([(⟨t753, a1⟩ : S65)] : List (S65)))).bind fun t772 => (some (t772, t753, true))))) = some (r1, r2, r3) := by rw [if_neg (show ¬ (false = true) by decide)] at H; exact H
    clear H
    have H := H1
    clear H1
    by_cases c21 : (l0.length : Int) = 40
    ·rw [if_pos c21] at H
     have c21b0 : ((l0.length : Int) == 40) = true := beq_iff_eq.mpr c21
     have c21b1 : ((l0.length : Int) != 40) = false := bne_eq_false_iff_eq.mpr c21
     clear c21
     replace H := Option.bind_eq_some_iff.mp H
     obtain ⟨t763, A220, H⟩ := H
     replace H : (some (t763, (-1), false)) = some (r1, r2, r3) := H
     have A22 := Aside0.mk A220
     clear A220
     simp only [Option.some.injEq, Prod.mk.injEq] at H
     obtain ⟨rfl, rfl, rfl⟩ := H
     go_enter Try.func56, Try.ntmps56
     go_wp2_with (first | ((with_reducible refine gate_callee (f := 53) rfl ?_); refine gl_ (some 11) Try.func53 #[.slice A0 l0.length c0] ?_; (with_reducible refine (impl_StoreValid.calls k _ _ l0 true _ ?side1 ?side2 A3.out).mono ?_); (case side1 => exact kC_ HR0.out); (case side2 => exact HC0.out); rintro e w23 ⟨rfl, hb⟩; refine ⟨_, rfl, ?_⟩; replace HB := Aside0.mk (below_step hb_ hb); (try clear hb)) | ((with_reducible refine gate_callee (f := 68) rfl ?_); refine gl_ (some 14) Try.func68 #[.string a1] ?_; (with_reducible refine (impl_TextValid.calls k a1 true _ A5.out).mono ?_); rintro e w' ⟨rfl, ⟨nd, rfl⟩⟩; refine ⟨_, rfl, ?_⟩) | ((with_reducible refine gate_callee (f := 52) rfl ?_); refine gl_ (some 19) Try.func52 #[.string a1] ?_; (with_reducible refine (impl_PrintOf.calls k a1 t753 _ A7.out).mono ?_); rintro e w' ⟨rfl, ⟨nd, rfl⟩⟩; refine ⟨_, rfl, ?_⟩) | ((with_reducible refine gate_callee (f := 81) rfl ?_); refine gl_ (some 23) Try.func81 #[.slice A0 l0.length c0, .int .i64 t753] ?_; (with_reducible refine (impl_findPiece.calls k _ _ l0 t753 t754 false _ ?side1 ?side2 A8.out).mono ?_); (case side1 => exact kC_ (Kd.C_below HR0.out hb_)); (case side2 => exact HC0.out); rintro e w24 ⟨rfl, hb⟩; refine ⟨_, rfl, ?_⟩; replace HB := Aside0.mk (below_step hb_ hb); (try clear hb)) | ((with_reducible refine gate_callee (f := 80) rfl ?_); refine gl_ (some 43) Try.func80 #[.slice A0 l0.length c0] ?_; (with_reducible refine (slices_Clone_Piece.calls _ _ l0 t763 _ ?side1 ?side2 A22.out).mono ?_); (case side1 => exact kC_ (Kd.C_below HR0.out HB.out)); (case side2 => exact HC0.out); rintro e w25 ⟨v764, rfl, ho0, hb⟩; refine ⟨_, rfl, ?_⟩; have HO765 := Aside0.mk (Kd.R_lower ho0 (below_size hb_)); replace HB := Aside0.mk (below_step hb_ hb); (try clear hb); (try clear ho0)))
     go_ret3
     exact ⟨_, er_, by refine kR_ ?_; exact HO765.out, hb_⟩
    ·rw [if_neg c21] at H
     have c21b0 : ((l0.length : Int) == 40) = false := beq_eq_false_iff_ne.mpr c21
     have c21b1 : ((l0.length : Int) != 40) = true := bne_iff_ne.mpr c21
     replace H := Option.bind_eq_some_iff.mp H
     obtain ⟨t766, A260, H⟩ := H
     replace H : ((slices_Insert_Piece.f t766 t754 (([(⟨t753, a1⟩ : S65)] : List (S65)))).bind fun t772 => (some (t772, t753, true))) = some (r1, r2, r3) := H
     have A26 := Aside0.mk A260
     clear A260
     obtain ⟨y769, hy769⟩ : ∃ y_ : List (S65), y_ = (([(⟨t753, a1⟩ : S65)] : List (S65))) := ⟨_, rfl⟩
     replace H : ((slices_Insert_Piece.f t766 t754 y769).bind fun t772 => (some (t772, t753, true))) = some (r1, r2, r3) := hq_ hy769 H
     have Ny769 := Aside0.mk hy769
     clear hy769
     replace H := Option.bind_eq_some_iff.mp H
     obtain ⟨t772, A270, H⟩ := H
     replace H : (some (t772, t753, true)) = some (r1, r2, r3) := H
     have A27 := Aside0.mk A270
     clear A270
     simp only [Option.some.injEq, Prod.mk.injEq] at H
     obtain ⟨rfl, rfl, rfl⟩ := H
     go_enter Try.func56, Try.ntmps56
     go_wp2_with (first | ((with_reducible refine gate_callee (f := 53) rfl ?_); refine gl_ (some 11) Try.func53 #[.slice A0 l0.length c0] ?_; (with_reducible refine (impl_StoreValid.calls k _ _ l0 true _ ?side1 ?side2 A3.out).mono ?_); (case side1 => exact kC_ HR0.out); (case side2 => exact HC0.out); rintro e w28 ⟨rfl, hb⟩; refine ⟨_, rfl, ?_⟩; replace HB := Aside0.mk (below_step hb_ hb); (try clear hb); (try clear hk)) | ((with_reducible refine gate_callee (f := 68) rfl ?_); refine gl_ (some 14) Try.func68 #[.string a1] ?_; (with_reducible refine (impl_TextValid.calls k a1 true _ A5.out).mono ?_); rintro e w' ⟨rfl, ⟨nd, rfl⟩⟩; refine ⟨_, rfl, ?_⟩) | ((with_reducible refine gate_callee (f := 52) rfl ?_); refine gl_ (some 19) Try.func52 #[.string a1] ?_; (with_reducible refine (impl_PrintOf.calls k a1 t753 _ A7.out).mono ?_); rintro e w' ⟨rfl, ⟨nd, rfl⟩⟩; refine ⟨_, rfl, ?_⟩) | ((with_reducible refine gate_callee (f := 81) rfl ?_); refine gl_ (some 23) Try.func81 #[.slice A0 l0.length c0, .int .i64 t753] ?_; (with_reducible refine (impl_findPiece.calls k _ _ l0 t753 t754 false _ ?side1 ?side2 A8.out).mono ?_); (case side1 => exact kC_ (Kd.C_below HR0.out hb_)); (case side2 => exact HC0.out); rintro e w29 ⟨rfl, hb⟩; refine ⟨_, rfl, ?_⟩; replace HB := Aside0.mk (below_step hb_ hb); (try clear hb); (try clear hk)) | ((with_reducible refine gate_callee (f := 80) rfl ?_); refine gl_ (some 45) Try.func80 #[.slice A0 l0.length c0] ?_; (with_reducible refine (slices_Clone_Piece.calls _ _ l0 t766 _ ?side1 ?side2 A26.out).mono ?_); (case side1 => exact kC_ (Kd.C_below HR0.out HB.out)); (case side2 => exact HC0.out); rintro e w30 ⟨v767, rfl, ho0, hb⟩; refine ⟨_, rfl, ?_⟩; have HO768 := Aside0.mk (Kd.R_lower ho0 (below_size hb_)); replace HB := Aside0.mk (below_step hb_ hb); (try clear hb); (try clear hk); (try clear ho0)) | ((with_reducible refine gate_dst (N := 50) rfl ?_); refine Kd.R_lit k65 _ 65 ?hg (N := 50) ?hd (xs := ([(⟨t753, a1⟩ : S65)] : List (S65))) (inner := [.int .i64 t753, .string a1]) (ok := fun _ => True) (okp := fun _ => True) ?hr ?hp (fun _ hk => hk) trivial (Below.refl _ _) (Nat.le_refl _) (by simp) ?_; (case hd => rfl); (case hg => rfl); (case hr => first | (go_simp; done) | (go_simp; rfl)); (case hp => exact (Reps.c2 (show Kd.M k65 _ _ _ (⟨t753, a1⟩ : S65) [.int .i64 t753, .string a1] from (k65_mkM _ _ _ (⟨t753, a1⟩ : S65) )) (Reps.none _ _))); intro v770 w31 ho32 hb hg_ hnew_; clear hg_ hnew_; (first | rw [← Ny769.out] at ho32 | (simp only [Int.reduceToNat] at ho32; rw [← Ny769.out] at ho32)); have HO771 := Aside0.mk (Kd.R_lower (Kd.R_new' ho32 (Kd.R_lt (kR_ HO768.out))) (below_size hb_)); replace HO768 := Aside0.mk (Kd.R_elder' (kR_ HO768.out) (Kd.R_base ho32) hb); replace HB := Aside0.mk (below_step hb_ hb); clear hb ho32; obtain ⟨Ao33, co33, eo33⟩ := Kd.R_slice HO768.out; subst eo33; obtain ⟨Ao34, co34, eo34⟩ := Kd.R_slice HO771.out; subst eo34) | ((with_reducible refine gate_callee (f := 82) rfl ?_); refine gl_ (some 51) Try.func82 #[.slice Ao33 t766.length co33, .int .i64 t754, .slice Ao34 y769.length co34] ?_; (with_reducible refine (slices_Insert_Piece.calls (fun k_ => some k_ = (.slice Ao33 t766.length co33 : Value).ownBlock) (.slice Ao33 t766.length co33) t766 t754 (fun k_ => some k_ = (.slice Ao34 y769.length co34 : Value).ownBlock) (.slice Ao34 y769.length co34) y769 t772 w _ ?side1 ?side2 ?side3 ?side4 ?side5 A27.out).mono ?_); (case side1 => repeat (first | (with_reducible first | exact HB.out | apply below_alloc | apply pw_below_drewN | apply below_drew1) | exact HB.out)); (case side2 => exact Kd.R_tight rfl HO768.out); (case side3 => exact fun k_ e_ => (HO768.out.1 k_ e_.symm).2); (case side4 => exact Kd.R_tight rfl HO771.out); (case side5 => exact fun k_ e_ => (HO771.out.1 k_ e_.symm).2); rintro e w35 ⟨v773, rfl, ho0, hb, hkp⟩; refine ⟨_, rfl, ?_⟩; have n0_ := Aside0.mk (Kd.R_mono (ok' := fun k_ => True) ho0 (fun k_ hk_ => trivial)); have n1_ := Aside0.mk (hb); clear HB; clear HO768; clear HO771; have HO774 := n0_; have HB := n1_; clear n0_ n1_; (try clear hb); (try clear hkp); (try clear ho0)))
     go_ret3
     exact ⟨_, er_, by refine kR_ ?_; exact HO774.out, hb_⟩
  ·replace c6 := Bool.eq_false_iff.mpr c6
   subst c6
   have H1 : ((slices_Clone_Piece.f l0).bind fun t750 => (some (t750, (-1), false))) = some (r1, r2, r3) := by rw [if_neg (show ¬ (false = true) by decide)] at H; exact H
   clear H
   have H := H1
   clear H1
   replace H := Option.bind_eq_some_iff.mp H
   obtain ⟨t750, A360, H⟩ := H
   replace H : (some (t750, (-1), false)) = some (r1, r2, r3) := H
   have A36 := Aside0.mk A360
   clear A360
   simp only [Option.some.injEq, Prod.mk.injEq] at H
   obtain ⟨rfl, rfl, rfl⟩ := H
   go_enter Try.func56, Try.ntmps56
   go_wp2_with (first | ((with_reducible refine gate_callee (f := 53) rfl ?_); refine gl_ (some 11) Try.func53 #[.slice A0 l0.length c0] ?_; (with_reducible refine (impl_StoreValid.calls k _ _ l0 true _ ?side1 ?side2 A3.out).mono ?_); (case side1 => exact kC_ HR0.out); (case side2 => exact HC0.out); rintro e w37 ⟨rfl, hb⟩; refine ⟨_, rfl, ?_⟩; replace HB := Aside0.mk (below_step hb_ hb); (try clear hb)) | ((with_reducible refine gate_callee (f := 68) rfl ?_); refine gl_ (some 14) Try.func68 #[.string a1] ?_; (with_reducible refine (impl_TextValid.calls k a1 false _ A5.out).mono ?_); rintro e w' ⟨rfl, ⟨nd, rfl⟩⟩; refine ⟨_, rfl, ?_⟩) | ((with_reducible refine gate_callee (f := 80) rfl ?_); refine gl_ (some 17) Try.func80 #[.slice A0 l0.length c0] ?_; (with_reducible refine (slices_Clone_Piece.calls _ _ l0 t750 _ ?side1 ?side2 A36.out).mono ?_); (case side1 => exact kC_ (Kd.C_below HR0.out hb_)); (case side2 => exact HC0.out); rintro e w38 ⟨v751, rfl, ho0, hb⟩; refine ⟨_, rfl, ?_⟩; have HO752 := Aside0.mk (Kd.R_lower ho0 (below_size hb_)); replace HB := Aside0.mk (below_step hb_ hb); (try clear hb); (try clear ho0)))
   go_ret3
   exact ⟨_, er_, by refine kR_ ?_; exact HO752.out, hb_⟩
 ·replace c4 := Bool.eq_false_iff.mpr c4
  subst c4
  have H1 : (some (([] : List (S65)), (-1), false)) = some (r1, r2, r3) := by rw [if_neg (show ¬ (false = true) by decide)] at H; exact H
  clear H
  have H := H1
  clear H1
  simp only [Option.some.injEq, Prod.mk.injEq] at H
  obtain ⟨rfl, rfl, rfl⟩ := H
  go_enter Try.func56, Try.ntmps56
  go_wp2_with (first | ((with_reducible refine gate_callee (f := 53) rfl ?_); refine gl_ (some 11) Try.func53 #[.slice A0 l0.length c0] ?_; (with_reducible refine (impl_StoreValid.calls k _ _ l0 false _ ?side1 ?side2 A3.out).mono ?_); (case side1 => exact kC_ HR0.out); (case side2 => exact HC0.out); rintro e w39 ⟨rfl, hb⟩; refine ⟨_, rfl, ?_⟩; replace HB := Aside0.mk (below_step hb_ hb); (try clear hb)))
  go_ret3
  exact ⟨_, er_, by first | exact Kd.R_nil _ _ _ _ _ | exact Kd.N_nil _ _ _ _ _ | exact Kd.V_nil _ _ _ _ _ | exact Kd.Q_nil _ _ _ _ _ | exact Kd.S_nil _ _ _ _ _, hb_⟩
/-! ### spec_DrawPutText: function 55 -/
mutual
def spec_DrawPutText.l0 : Nat → List (S65) → Int → List Int → Int → Option ((List (S65)) × ByteArray)
 | 0, _, _, _, _ => none
 | k + 1, x5, x7, x1268000, x1268001 => if (x5.length : Int) < 40 then (spec_DrawPutText.j1 k x5 x7 (decide (x7 < 200)) x1268000 x1268001) else (spec_DrawPutText.j1 k x5 x7 false x1268000 x1268001)
def spec_DrawPutText.j1 : Nat → List (S65) → Int → Bool → List Int → Int → Option ((List (S65)) × ByteArray)
 | 0, _, _, _, _, _ => none
 | k + 1, x5, x7, x27, x1268000, x1268001 => if x27 = true then ((spec_HexText.f k x7).bind fun t1278 => (if 1 + t1278.size ≤ 9223372036854775807 then ((spec_PutText.f k x5 ((⟨#[116]⟩ : ByteArray) ++ t1278)).bind fun bt1279 => (spec_DrawPutText.l0 k bt1279.1 (wrap64 (x7 + 1)) x1268000 x1268001)) else (none))) else ((spec_l20Text.f k x1268000 x1268001 9).bind fun bt1284 => (some (x5, bt1284.1)))
end
def spec_DrawPutText.f (k : Nat) (l0 : List Int) : Option ((List (S65)) × ByteArray) := (spec_l20Open.f l0).bind fun bt1265 => ((spec_l20Store.f k bt1265.1 bt1265.2 9).bind fun bt1268 => ((spec_l20Rd_odd.f k bt1265.1 bt1268.2.2 14).bind fun bt1273 => (if bt1273.1 = true then (spec_DrawPutText.l0 k (([] : List (S65))) 0 bt1265.1 bt1273.2) else ((spec_l20Text.f k bt1265.1 bt1273.2 9).bind fun bt1286 => (some (bt1268.1, bt1286.1))))))
set_option maxHeartbeats 8000000 in
set_option maxRecDepth 100000 in
theorem spec_DrawPutText.calls (k : Nat) (A0 : Option Addr) (c0 : Nat) (l0 : List Int) (r1 : List (S65)) (r2 : ByteArray) (w : World) (hr0 : Kd.C (Kd.int .u8) w A0 l0.length l0) (hc0 : l0.length ≤ c0) (h : spec_DrawPutText.f k l0 = some (r1, r2)) :
  Calls Try.prog 55 #[.slice A0 l0.length c0] w fun e w' => ∃ v0_ : Value, e = .returned (.tuple #[v0_, .string r2]) ∧ Kd.V k65 65 w' w.heap.size (fun k_ => (w.heap.size ≤ k_)) v0_ r1 ∧ Below w.heap.size w w' := by
 have HR0 := Aside0.mk hr0
 have HC0 := Aside0.mk hc0
 clear hr0 hc0
 have HB := Aside0.mk (Below.refl w.heap.size w)
 have H : ((spec_l20Open.f l0).bind fun bt1265 => ((spec_l20Store.f k bt1265.1 bt1265.2 9).bind fun bt1268 => ((spec_l20Rd_odd.f k bt1265.1 bt1268.2.2 14).bind fun bt1273 => (if bt1273.1 = true then (spec_DrawPutText.l0 k (([] : List (S65))) 0 bt1265.1 bt1273.2) else ((spec_l20Text.f k bt1265.1 bt1273.2 9).bind fun bt1286 => (some (bt1268.1, bt1286.1))))))) = some (r1, r2) := h
 clear h
 replace H := Option.bind_eq_some_iff.mp H
 obtain ⟨⟨t1265, t1266⟩, A20, H⟩ := H
 replace H : ((spec_l20Store.f k t1265 t1266 9).bind fun bt1268 => ((spec_l20Rd_odd.f k t1265 bt1268.2.2 14).bind fun bt1273 => (if bt1273.1 = true then (spec_DrawPutText.l0 k (([] : List (S65))) 0 t1265 bt1273.2) else ((spec_l20Text.f k t1265 bt1273.2 9).bind fun bt1286 => (some (bt1268.1, bt1286.1)))))) = some (r1, r2) := H
 have A2 := Aside0.mk A20
 clear A20
 replace H := Option.bind_eq_some_iff.mp H
 obtain ⟨⟨t1268, t1271, t1272⟩, A30, H⟩ := H
 replace H : ((spec_l20Rd_odd.f k t1265 t1272 14).bind fun bt1273 => (if bt1273.1 = true then (spec_DrawPutText.l0 k (([] : List (S65))) 0 t1265 bt1273.2) else ((spec_l20Text.f k t1265 bt1273.2 9).bind fun bt1286 => (some (t1268, bt1286.1))))) = some (r1, r2) := H
 have A3 := Aside0.mk A30
 clear A30
 replace H := Option.bind_eq_some_iff.mp H
 obtain ⟨⟨t1273, t1274⟩, A40, H⟩ := H
 replace H : (if t1273 = true then (spec_DrawPutText.l0 k (([] : List (S65))) 0 t1265 t1274) else ((spec_l20Text.f k t1265 t1274 9).bind fun bt1286 => (some (t1268, bt1286.1)))) = some (r1, r2) := H
 have A4 := Aside0.mk A40
 clear A40
 by_cases c5 : t1273 = true
 ·subst c5
  have H1 : (spec_DrawPutText.l0 k (([] : List (S65))) 0 t1265 t1274) = some (r1, r2) := by rw [if_pos rfl] at H; exact H
  clear H
  have H := H1
  clear H1
  obtain ⟨y1275, hy1275⟩ : ∃ y_ : List (S65), y_ = (([] : List (S65))) := ⟨_, rfl⟩
  replace H : (spec_DrawPutText.l0 k y1275 0 t1265 t1274) = some (r1, r2) := hq_ hy1275 H
  have Ny1275 := Aside0.mk hy1275
  clear hy1275
  have H' := Aside0.mk H
  clear H
  go_enter Try.func55, Try.ntmps55
  go_wp2_with (first | ((with_reducible refine gate_callee (f := 67) rfl ?_); refine gl_ (some 12) Try.func67 #[.slice A0 l0.length c0] ?_; (with_reducible refine (spec_l20Open.calls _ _ l0 t1265 t1266 w _ ?side1 ?side2 ?side3 A2.out).mono ?_); (case side1 => repeat (first | (with_reducible first | exact HB.out | apply below_alloc | apply pw_below_drewN | apply below_drew1) | exact HB.out)); (case side2 => exact HR0.out); (case side3 => exact HC0.out); rintro e w6 ⟨g1267, rfl, hi, hb, hb2⟩; refine ⟨_, rfl, ?_⟩; replace HB := Aside0.mk (hb); have HI1267 := Aside0.mk (hi); (try clear hb); (try clear hb2); (try clear hk); (try clear hi)) | ((with_reducible refine gate_callee (f := 78) rfl ?_); refine gl_ (some 15) Try.func78 #[.pointer (some ⟨g1267, 0, none⟩), .int .i64 9] ?_; (with_reducible refine (spec_l20Store.calls k g1267 t1265 t1266 9 t1268 t1271 t1272 w _ ?side1 ?side2 A3.out).mono ?_); (case side1 => repeat (first | (with_reducible first | exact HI1267.out | apply IsS91.alloc | apply IsS91.drewN | apply IsS91.drew | apply IsS91.set_1) | exact HI1267.out)); (case side2 => exact hs_ (IsS91.ge HI1267.out)); rintro e w7 ⟨v1269, rfl, ho0, hi, hb, hk⟩; refine ⟨_, rfl, ?_⟩; have HO1270 := Aside0.mk (Kd.V_lower (Kd.V_mono (ok' := fun k_ => (w.heap.size ≤ k_) ∧ k_ ≠ g1267) ho0 (fun k_ hk_ => ⟨(Nat.le_trans (below_size (hs_ (IsS91.ge HI1267.out))) hk_), (IsS91.fresh (by repeat (first | (with_reducible first | exact HI1267.out | apply IsS91.alloc | apply IsS91.drewN | apply IsS91.drew | apply IsS91.set_1) | exact HI1267.out)) k_ hk_)⟩)) (below_size (hs_ (IsS91.ge HI1267.out)))); replace HB := Aside0.mk (hb); replace HI1267 := Aside0.mk (hi); (try clear hb); (try clear hb2); (try clear hk); (try clear hi); (try clear ho0)) | ((with_reducible refine gate_callee (f := 74) rfl ?_); refine gl_ (some 19) Try.func74 #[.pointer (some ⟨g1267, 0, none⟩), .int .i64 14] ?_; (with_reducible refine (spec_l20Rd_odd.calls k g1267 t1265 t1272 14 true t1274 w _ ?side1 ?side2 A4.out).mono ?_); (case side1 => repeat (first | (with_reducible first | exact HI1267.out | apply IsS91.alloc | apply IsS91.drewN | apply IsS91.drew | apply IsS91.set_1) | exact HI1267.out)); (case side2 => exact hs_ (IsS91.ge HI1267.out)); rintro e w8 ⟨rfl, hi, hb, hk⟩; refine ⟨_, rfl, ?_⟩; have n0_ := Aside0.mk (Kd.V_mono (Kd.V_keep (Kd.V_mono (ok := fun k_ => (((w.heap.size ≤ k_)) ∧ k_ ≠ g1267)) (kV_ HO1270.out) (fun k_ hk_ => (⟨hk_, hk_.2⟩ : _ ∧ k_ ≠ g1267))) hk (fun _ h => h.2)) (fun _ h => h.1)); have n1_ := Aside0.mk (hb); have n2_ := Aside0.mk (hi); clear HO1270; clear HB; clear HI1267; have HO1270 := n0_; have HB := n1_; have HI1267 := n2_; clear n0_ n1_ n2_; (try clear hb); (try clear hb2); (try clear hk); (try clear hi)) | ((with_reducible refine gate_dst (N := 20) rfl ?_); refine Kd.R_lit k65 _ 65 ?hg (N := 20) ?hd (xs := ([] : List (S65))) (inner := []) (ok := fun _ => True) (okp := fun _ => True) ?hr ?hp (fun _ hk => hk) trivial (Below.refl _ _) (Nat.le_refl _) (by simp) ?_; (case hd => rfl); (case hg => rfl); (case hr => first | (go_simp; done) | (go_simp; rfl)); (case hp => exact (Reps.none _ _)); intro v1276 w9 ho10 hb hg_ hnew_; clear hg_ hnew_; (first | rw [← Ny1275.out] at ho10 | (simp only [Int.reduceToNat] at ho10; rw [← Ny1275.out] at ho10)); have n0_ := Aside0.mk (Kd.V_elder' (kV_ HO1270.out) (Kd.R_base ho10) hb); have n1_ := Aside0.mk (Kd.R_lower (Kd.R_newM (M := fun k_ => (w.heap.size ≤ k_)) ho10 (below_size (hs_ (IsS91.ge HI1267.out))) (fun k_ h_ => h_)) (below_size (hs_ (IsS91.ge HI1267.out)))); have n2_ := Aside0.mk (IsS91.below (by repeat (first | (with_reducible first | exact HI1267.out | apply IsS91.alloc | apply IsS91.drewN | apply IsS91.drew | apply IsS91.set_1) | exact HI1267.out)) hb); have n3_ := Aside0.mk (below_step (hs_ (IsS91.ge HI1267.out)) hb); clear HO1270; clear HI1267; clear HB; have HO1270 := n0_; have HO1277 := n1_; have HI1267 := n2_; have HB := n3_; clear n0_ n1_ n2_ n3_; clear hb ho10))
  go_loopg [5, 7] k (fun kq v5 v7 w' => ∃ (x5_1 : List (S65)) (x7_1 : Int), v7 = .int .i64 x7_1 ∧ Aside0 (spec_DrawPutText.l0 kq x5_1 x7_1 t1265 t1274 = some (r1, r2)) ∧ Aside0 (kq ≤ k) ∧ Aside0 (Kd.R k65 65 w' w.heap.size (fun k_ => (w.heap.size ≤ k_)) v5 x5_1) ∧ Aside0 (IsS91 w w' g1267 t1265 t1274) ∧ Aside0 (Below w.heap.size w w'))
  case atStart => exact ⟨(y1275), (0), rs_, H', ⟨Nat.le_refl _⟩, ⟨by refine kR_ ?_; exact Kd.R_mono HO1277.out (fun _ hk => hk.1)⟩, ⟨by repeat (first | (with_reducible first | exact HI1267.out | apply IsS91.alloc | apply IsS91.drewN | apply IsS91.drew | apply IsS91.set_1) | exact HI1267.out)⟩, ⟨by repeat (first | (with_reducible first | exact HB.out | apply below_alloc | apply pw_below_drewN | apply below_drew1 | refine below_set ?_ (IsS91.ge HI1267.out)) | exact HB.out)⟩⟩
  case round =>
   clear H'
   try clear p2
   try clear c5
   try clear c6
   try clear c7
   obtain ⟨x5_1, x7_1, rfl, HA, HK1, HO_5, HI1267, HB⟩ := hrel
   cases gk with
   | zero => exact absurd HA.out (by simp [spec_DrawPutText.l0])
   | succ k1 =>
    have H := HA.out
    clear HA
    simp only [spec_DrawPutText.l0] at H
    have HC11 := Aside0.mk H
    clear H
    go_upto_region 6 with (fail)
    go_cut [27] (fun v27 wc => ∃ (kq : Nat) (x27_10 : Bool), v27 = .bool x27_10 ∧ Aside0 (spec_DrawPutText.j1 kq x5_1 x7_1 x27_10 t1265 t1274 = some (r1, r2)) ∧ Aside0 (kq ≤ k1) ∧ Aside0 (Kd.R k65 65 wc w.heap.size (fun k_ => (w.heap.size ≤ k_)) u5 x5_1) ∧ Aside0 (IsS91 w wc g1267 t1265 t1274) ∧ Aside0 (Below w.heap.size w wc))
    case first =>
     have H := HC11.out
     clear HC11
     by_cases c12 : (x5_1.length : Int) < 40
     ·rw [if_pos c12] at H
      have c12b0 : decide ((x5_1.length : Int) < 40) = true := decide_eq_true c12
      have c12b1 : decide (x5_1.length < 40) = true := decide_eq_true (by omega)
      clear c12
      (first | rw [c12b0] | (simp only [i64_w, i32_w]; rw [c12b0]) | skip)
      have H' := Aside0.mk H
      clear H
      obtain ⟨Ao13, co13, eo13⟩ := Kd.R_slice HO_5.out
      subst eo13
      go_wp2
      go_meet
      case rel => exact ⟨_, (decide (x7_1 < 200)), rs_, H', ⟨by have := HK1.out; first | omega | exact Nat.le_refl _⟩, ⟨by refine kR_ ?_; exact HO_5.out⟩, ⟨by repeat (first | (with_reducible first | exact HI1267.out | apply IsS91.alloc | apply IsS91.drewN | apply IsS91.drew | apply IsS91.set_1) | exact HI1267.out)⟩, ⟨by repeat (first | (with_reducible first | exact HB.out | apply below_alloc | apply pw_below_drewN | apply below_drew1 | refine below_set ?_ (IsS91.ge HI1267.out)) | exact HB.out)⟩⟩
     ·rw [if_neg c12] at H
      have c12b0 : decide ((x5_1.length : Int) < 40) = false := decide_eq_false c12
      have c12b1 : decide (x5_1.length < 40) = false := decide_eq_false (by omega)
      clear c12
      (first | rw [c12b0] | (simp only [i64_w, i32_w]; rw [c12b0]) | skip)
      have H' := Aside0.mk H
      clear H
      obtain ⟨Ao14, co14, eo14⟩ := Kd.R_slice HO_5.out
      subst eo14
      go_wp2
      go_meet
      case rel => exact ⟨_, (false), rs_, H', ⟨by have := HK1.out; first | omega | exact Nat.le_refl _⟩, ⟨by refine kR_ ?_; exact HO_5.out⟩, ⟨by repeat (first | (with_reducible first | exact HI1267.out | apply IsS91.alloc | apply IsS91.drewN | apply IsS91.drew | apply IsS91.set_1) | exact HI1267.out)⟩, ⟨by repeat (first | (with_reducible first | exact HB.out | apply below_alloc | apply pw_below_drewN | apply below_drew1 | refine below_set ?_ (IsS91.ge HI1267.out)) | exact HB.out)⟩⟩
    case rest =>
     clear HC11
     try clear c1
     try clear p2
     try clear c5
     try clear c6
     try clear c7
     try clear c12
     try clear c12b0
     try clear c12b1
     try clear p2
     obtain ⟨kq, x27_10, rfl, HA, HJ10, HO_5, HI1267, HB⟩ := hcut
     cases kq with
     | zero => exact absurd HA.out (by simp [spec_DrawPutText.j1])
     | succ kj10 =>
      have H := HA.out
      clear HA
      simp only [spec_DrawPutText.j1] at H
      by_cases c15 : x27_10 = true
      ·subst c15
       have H1 : ((spec_HexText.f kj10 x7_1).bind fun t1278 => (if 1 + t1278.size ≤ 9223372036854775807 then ((spec_PutText.f kj10 x5_1 ((⟨#[116]⟩ : ByteArray) ++ t1278)).bind fun bt1279 => (spec_DrawPutText.l0 kj10 bt1279.1 (wrap64 (x7_1 + 1)) t1265 t1274)) else (none))) = some (r1, r2) := by rw [if_pos rfl] at H; exact H
       clear H
       have H := H1
       clear H1
       replace H := Option.bind_eq_some_iff.mp H
       obtain ⟨t1278, A160, H⟩ := H
       replace H : (if 1 + t1278.size ≤ 9223372036854775807 then ((spec_PutText.f kj10 x5_1 ((⟨#[116]⟩ : ByteArray) ++ t1278)).bind fun bt1279 => (spec_DrawPutText.l0 kj10 bt1279.1 (wrap64 (x7_1 + 1)) t1265 t1274)) else (none)) = some (r1, r2) := H
       have A16 := Aside0.mk A160
       clear A160
       by_cases c17 : 1 + t1278.size ≤ 9223372036854775807; rotate_left
       ·rw [if_neg c17] at H; exact absurd H (by simp)
       rw [if_pos c17] at H
       have c17b0 := eq_true c17
       have c17b1 : decide (1 + t1278.size ≤ 9223372036854775807) = true := decide_eq_true c17
       try have c17b2 : (9223372036854775807 < 1 + t1278.size) = False := eq_false (Nat.not_lt.2 c17)
       replace H := Option.bind_eq_some_iff.mp H
       obtain ⟨⟨t1279, t1280, t1281⟩, A180, H⟩ := H
       replace H : (spec_DrawPutText.l0 kj10 t1279 (wrap64 (x7_1 + 1)) t1265 t1274) = some (r1, r2) := H
       have A18 := Aside0.mk A180
       clear A180
       have H' := Aside0.mk H
       clear H
       go_wp2_with (first | ((with_reducible refine gate_callee (f := 79) rfl ?_); refine gl_ (some 33) Try.func79 #[.int .i64 x7_1] ?_; (with_reducible refine (spec_HexText.calls kj10 x7_1 t1278 _ A16.out).mono ?_); rintro e w' ⟨rfl, ⟨nd, rfl⟩⟩; refine ⟨_, rfl, ?_⟩; obtain ⟨Ao19, co19, eo19⟩ := Kd.R_slice HO_5.out; subst eo19) | ((with_reducible refine gate_callee (f := 57) rfl ?_); refine gl_ (some 35) Try.func57 #[.slice Ao19 x5_1.length co19, .string ((⟨#[116]⟩ : ByteArray) ++ t1278)] ?_; (with_reducible refine (spec_PutText.calls kj10 _ _ x5_1 ((⟨#[116]⟩ : ByteArray) ++ t1278) t1279 t1280 t1281 _ ?side1 ?side2 A18.out).mono ?_); (case side1 => exact kC_ ((Kd.R_reads' HO_5.out).2.2)); (case side2 => exact (Kd.R_reads' HO_5.out).2.1); rintro e w20 ⟨v1282, rfl, ho0, hb⟩; refine ⟨_, rfl, ?_⟩; have HO1283 := Aside0.mk (Kd.R_lower (Kd.R_new' (Kd.R_newM (M := fun k_ => (w.heap.size ≤ k_)) ho0 (below_size (hs_ (IsS91.ge HI1267.out))) (fun k_ h_ => h_)) (Kd.R_lt (kR_ HO_5.out))) (below_size (hs_ (IsS91.ge HI1267.out)))); replace HO_5 := Aside0.mk (Kd.R_elder' (kR_ HO_5.out) (Kd.R_base ho0) hb); replace HB := Aside0.mk (below_step (hs_ (IsS91.ge HI1267.out)) hb); replace HI1267 := Aside0.mk (IsS91.below (by repeat (first | (with_reducible first | exact HI1267.out | apply IsS91.alloc | apply IsS91.drewN | apply IsS91.drew | apply IsS91.set_1) | exact HI1267.out)) hb); (try clear hb); (try clear ho0)))
       go_roundg kj10
       case measure => have := HK1.out; have := HJ10.out; omega
       case rel => exact ⟨(t1279), (wrap64 (x7_1 + 1)), rs_, H', ⟨by have := HK1.out; have := HJ10.out; omega⟩, ⟨by refine kR_ ?_; exact Kd.R_mono HO1283.out (fun _ hk => hk.1.1)⟩, ⟨by repeat (first | (with_reducible first | exact HI1267.out | apply IsS91.alloc | apply IsS91.drewN | apply IsS91.drew | apply IsS91.set_1) | exact HI1267.out)⟩, ⟨by repeat (first | (with_reducible first | exact HB.out | apply below_alloc | apply pw_below_drewN | apply below_drew1 | refine below_set ?_ (IsS91.ge HI1267.out)) | exact HB.out)⟩⟩
      ·replace c15 := Bool.eq_false_iff.mpr c15
       subst c15
       have H1 : ((spec_l20Text.f kj10 t1265 t1274 9).bind fun bt1284 => (some (x5_1, bt1284.1))) = some (r1, r2) := by rw [if_neg (show ¬ (false = true) by decide)] at H; exact H
       clear H
       have H := H1
       clear H1
       replace H := Option.bind_eq_some_iff.mp H
       obtain ⟨⟨t1284, t1285⟩, A210, H⟩ := H
       replace H : (some (x5_1, t1284)) = some (r1, r2) := H
       have A21 := Aside0.mk A210
       clear A210
       simp only [Option.some.injEq, Prod.mk.injEq] at H
       obtain ⟨rfl, rfl⟩ := H
       go_wp2_with (first | ((with_reducible refine gate_callee (f := 73) rfl ?_); refine gl_ (some 42) Try.func73 #[.pointer (some ⟨g1267, 0, none⟩), .int .i64 9] ?_; (with_reducible refine (spec_l20Text.calls kj10 g1267 t1265 t1274 9 t1284 t1285 w _ ?side1 ?side2 A21.out).mono ?_); (case side1 => repeat (first | (with_reducible first | exact HI1267.out | apply IsS91.alloc | apply IsS91.drewN | apply IsS91.drew | apply IsS91.set_1) | exact HI1267.out)); (case side2 => exact hs_ (IsS91.ge HI1267.out)); rintro e w22 ⟨rfl, hi, hb, hk⟩; refine ⟨_, rfl, ?_⟩; replace HO_5 := Aside0.mk (Kd.R_mono (Kd.R_keep (IsS91.apart (show IsS91 w _ g1267 t1265 t1274 from by repeat (first | (with_reducible first | exact HI1267.out | apply IsS91.alloc | apply IsS91.drewN | apply IsS91.drew | apply IsS91.set_1) | exact HI1267.out)) (kR_ HO_5.out) (by decide)) hk (fun _ h => h.2)) (fun _ h => h.1)); replace HB := Aside0.mk (hb); replace HI1267 := Aside0.mk (hi); (try clear hb); (try clear hk); (try clear hi)))
       go_ret2
       exact ⟨_, er_, Kd.R_V (kR_ HO_5.out), hs_ (IsS91.ge HI1267.out)⟩
 ·replace c5 := Bool.eq_false_iff.mpr c5
  subst c5
  have H1 : ((spec_l20Text.f k t1265 t1274 9).bind fun bt1286 => (some (t1268, bt1286.1))) = some (r1, r2) := by rw [if_neg (show ¬ (false = true) by decide)] at H; exact H
  clear H
  have H := H1
  clear H1
  replace H := Option.bind_eq_some_iff.mp H
  obtain ⟨⟨t1286, t1287⟩, A230, H⟩ := H
  replace H : (some (t1268, t1286)) = some (r1, r2) := H
  have A23 := Aside0.mk A230
  clear A230
  simp only [Option.some.injEq, Prod.mk.injEq] at H
  obtain ⟨rfl, rfl⟩ := H
  go_enter Try.func55, Try.ntmps55
  go_wp2_with (first | ((with_reducible refine gate_callee (f := 67) rfl ?_); refine gl_ (some 12) Try.func67 #[.slice A0 l0.length c0] ?_; (with_reducible refine (spec_l20Open.calls _ _ l0 t1265 t1266 w _ ?side1 ?side2 ?side3 A2.out).mono ?_); (case side1 => repeat (first | (with_reducible first | exact HB.out | apply below_alloc | apply pw_below_drewN | apply below_drew1) | exact HB.out)); (case side2 => exact HR0.out); (case side3 => exact HC0.out); rintro e w24 ⟨g1267, rfl, hi, hb, hb2⟩; refine ⟨_, rfl, ?_⟩; replace HB := Aside0.mk (hb); have HI1267 := Aside0.mk (hi); (try clear hb); (try clear hb2); (try clear hk); (try clear hi)) | ((with_reducible refine gate_callee (f := 78) rfl ?_); refine gl_ (some 15) Try.func78 #[.pointer (some ⟨g1267, 0, none⟩), .int .i64 9] ?_; (with_reducible refine (spec_l20Store.calls k g1267 t1265 t1266 9 t1268 t1271 t1272 w _ ?side1 ?side2 A3.out).mono ?_); (case side1 => repeat (first | (with_reducible first | exact HI1267.out | apply IsS91.alloc | apply IsS91.drewN | apply IsS91.drew | apply IsS91.set_1) | exact HI1267.out)); (case side2 => exact hs_ (IsS91.ge HI1267.out)); rintro e w25 ⟨v1269, rfl, ho0, hi, hb, hk⟩; refine ⟨_, rfl, ?_⟩; have HO1270 := Aside0.mk (Kd.V_lower (Kd.V_mono (ok' := fun k_ => (w.heap.size ≤ k_) ∧ k_ ≠ g1267) ho0 (fun k_ hk_ => ⟨(Nat.le_trans (below_size (hs_ (IsS91.ge HI1267.out))) hk_), (IsS91.fresh (by repeat (first | (with_reducible first | exact HI1267.out | apply IsS91.alloc | apply IsS91.drewN | apply IsS91.drew | apply IsS91.set_1) | exact HI1267.out)) k_ hk_)⟩)) (below_size (hs_ (IsS91.ge HI1267.out)))); replace HB := Aside0.mk (hb); replace HI1267 := Aside0.mk (hi); (try clear hb); (try clear hb2); (try clear hk); (try clear hi); (try clear ho0)) | ((with_reducible refine gate_callee (f := 74) rfl ?_); refine gl_ (some 19) Try.func74 #[.pointer (some ⟨g1267, 0, none⟩), .int .i64 14] ?_; (with_reducible refine (spec_l20Rd_odd.calls k g1267 t1265 t1272 14 false t1274 w _ ?side1 ?side2 A4.out).mono ?_); (case side1 => repeat (first | (with_reducible first | exact HI1267.out | apply IsS91.alloc | apply IsS91.drewN | apply IsS91.drew | apply IsS91.set_1) | exact HI1267.out)); (case side2 => exact hs_ (IsS91.ge HI1267.out)); rintro e w26 ⟨rfl, hi, hb, hk⟩; refine ⟨_, rfl, ?_⟩; have n0_ := Aside0.mk (Kd.V_mono (Kd.V_keep (Kd.V_mono (ok := fun k_ => (((w.heap.size ≤ k_)) ∧ k_ ≠ g1267)) (kV_ HO1270.out) (fun k_ hk_ => (⟨hk_, hk_.2⟩ : _ ∧ k_ ≠ g1267))) hk (fun _ h => h.2)) (fun _ h => h.1)); have n1_ := Aside0.mk (hb); have n2_ := Aside0.mk (hi); clear HO1270; clear HB; clear HI1267; have HO1270 := n0_; have HB := n1_; have HI1267 := n2_; clear n0_ n1_ n2_; (try clear hb); (try clear hb2); (try clear hk); (try clear hi)) | ((with_reducible refine gate_callee (f := 73) rfl ?_); refine gl_ (some 42) Try.func73 #[.pointer (some ⟨g1267, 0, none⟩), .int .i64 9] ?_; (with_reducible refine (spec_l20Text.calls k g1267 t1265 t1274 9 t1286 t1287 w _ ?side1 ?side2 A23.out).mono ?_); (case side1 => repeat (first | (with_reducible first | exact HI1267.out | apply IsS91.alloc | apply IsS91.drewN | apply IsS91.drew | apply IsS91.set_1) | exact HI1267.out)); (case side2 => exact hs_ (IsS91.ge HI1267.out)); rintro e w27 ⟨rfl, hi, hb, hk⟩; refine ⟨_, rfl, ?_⟩; have n0_ := Aside0.mk (Kd.V_mono (Kd.V_keep (Kd.V_mono (ok := fun k_ => (((w.heap.size ≤ k_)) ∧ k_ ≠ g1267)) (kV_ HO1270.out) (fun k_ hk_ => (⟨hk_, hk_.2⟩ : _ ∧ k_ ≠ g1267))) hk (fun _ h => h.2)) (fun _ h => h.1)); have n1_ := Aside0.mk (hb); have n2_ := Aside0.mk (hi); clear HO1270; clear HB; clear HI1267; have HO1270 := n0_; have HB := n1_; have HI1267 := n2_; clear n0_ n1_ n2_; (try clear hb); (try clear hb2); (try clear hk); (try clear hi)))
  go_ret2
  exact ⟨_, er_, by refine kV_ ?_; exact Kd.V_mono HO1270.out (fun _ hk => hk.1), hs_ (IsS91.ge HI1267.out)⟩
end Go.Proofs.Ytcbmkonigclceaa.P
