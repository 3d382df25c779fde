-- The functions of the seat as plain Lean functions, made by the kit's print.py for all laws at once. Not trusted: Lean checks it.
import Derived.Test.YtcbmkonigclceaaPx0
import Derived.Test.YtcbmkonigclceaaPx2
namespace Go.Proofs.Ytcbmkonigclceaa.P
open Go.RowKit Go.Proofs.YtcbmkonigclceaaW.PrintWords Go.Proofs.YtcbmkonigclceaaW.PrintLast Go.Proofs.YtcbmkonigclceaaW.PrintMore
attribute [local go_sem] max2_int min2_int max_two min_two max_three min_three max_four min_four   -- for this text's walks alone
set_option linter.unusedVariables false
set_option linter.unusedSimpArgs false
/-! ### spec_l20Path: function 97 -/
def spec_l20Path.f (k : Nat) (s0_0 : List Int) (s0_1 : Int) (a1 : Int) : Option (ByteArray × Int) := (spec_l20Rd_odd.f k s0_0 s0_1 a1).bind fun bt921 => (if bt921.1 = true then ((some (([(⟨#[]⟩ : ByteArray), (⟨#[97]⟩ : ByteArray), (⟨#[47, 47]⟩ : ByteArray), (⟨#[47, 97, 47]⟩ : ByteArray), (⟨#[47, 65]⟩ : ByteArray), (⟨#[47, 97, 47, 98, 47, 99, 47, 100]⟩ : ByteArray)] : List ByteArray) : List ByteArray)).bind fun y923 => ((spec_l20Rd_pick.f k s0_0 bt921.2 6).bind fun bt926 => (if 0 ≤ bt926.1 then (if bt926.1 < (y923.length : Int) then (some (rdOf ByteArray.empty y923 bt926.1, bt926.2)) else (none)) else (none)))) else ((some (([(⟨#[47, 97]⟩ : ByteArray), (⟨#[47, 98]⟩ : ByteArray), (⟨#[47, 99]⟩ : ByteArray), (⟨#[47, 97, 47, 98]⟩ : ByteArray), (⟨#[47, 98, 47, 97]⟩ : ByteArray), (⟨#[47, 98, 47, 98, 47, 97]⟩ : ByteArray), (⟨#[47, 97, 47, 98, 47, 99]⟩ : ByteArray), (⟨#[47]⟩ : ByteArray)] : List ByteArray) : List ByteArray)).bind fun y929 => ((some (([0, 1, 2, 3, 4, 5, 6, 7, 0, 1, 2, 3, 4] : List Int) : List Int)).bind fun y932 => ((spec_l20Rd_pick.f k s0_0 bt921.2 13).bind fun bt935 => (if 0 ≤ bt935.1 then (if bt935.1 < (y932.length : Int) then (if 0 ≤ (rd y932 bt935.1) then (if (rd y932 bt935.1) < (y929.length : Int) then (some (rdOf ByteArray.empty y929 (rd y932 bt935.1), bt935.2)) else (none)) else (none)) else (none)) else (none))))))
set_option maxHeartbeats 8000000 in
set_option maxRecDepth 100000 in
theorem spec_l20Path.calls (k : Nat) (g : Nat) (s0_0 : List Int) (s0_1 : Int) (a1 : Int) (r1 : ByteArray) (r2 : Int) (w0 w : World) (hI : IsS91 w0 w g s0_0 s0_1) (hB : Below w0.heap.size w0 w) (h : spec_l20Path.f k s0_0 s0_1 a1 = some (r1, r2)) :
  Calls Try.prog 97 #[.pointer (some ⟨g, 0, none⟩), .int .i64 a1] w fun e w' => e = .returned (.string r1) ∧ IsS91 w0 w' g s0_0 r2 ∧ Below w0.heap.size w0 w' ∧ KeepBut w w' g none := by
 have HI0 := Aside0.mk hI
 have HK := Aside0.mk (KeepBut.refl w g none)
 have HL := Aside0.mk hB.size
 clear hI
 have HW0 := Aside0.mk hB.size
 have HB := Aside0.mk hB
 clear hB
 have H : ((spec_l20Rd_odd.f k s0_0 s0_1 a1).bind fun bt921 => (if bt921.1 = true then ((some (([(⟨#[]⟩ : ByteArray), (⟨#[97]⟩ : ByteArray), (⟨#[47, 47]⟩ : ByteArray), (⟨#[47, 97, 47]⟩ : ByteArray), (⟨#[47, 65]⟩ : ByteArray), (⟨#[47, 97, 47, 98, 47, 99, 47, 100]⟩ : ByteArray)] : List ByteArray) : List ByteArray)).bind fun y923 => ((spec_l20Rd_pick.f k s0_0 bt921.2 6).bind fun bt926 => (if 0 ≤ bt926.1 then (if bt926.1 < (y923.length : Int) then (some (rdOf ByteArray.empty y923 bt926.1, bt926.2)) else (none)) else (none)))) else ((some (([(⟨#[47, 97]⟩ : ByteArray), (⟨#[47, 98]⟩ : ByteArray), (⟨#[47, 99]⟩ : ByteArray), (⟨#[47, 97, 47, 98]⟩ : ByteArray), (⟨#[47, 98, 47, 97]⟩ : ByteArray), (⟨#[47, 98, 47, 98, 47, 97]⟩ : ByteArray), (⟨#[47, 97, 47, 98, 47, 99]⟩ : ByteArray), (⟨#[47]⟩ : ByteArray)] : List ByteArray) : List ByteArray)).bind fun y929 => ((some (([0, 1, 2, 3, 4, 5, 6, 7, 0, 1, 2, 3, 4] : List Int) : List Int)).bind fun y932 => ((spec_l20Rd_pick.f k s0_0 bt921.2 13).bind fun bt935 => (if 0 ≤ bt935.1 then (if bt935.1 < (y932.length : Int) then (if 0 ≤ (rd y932 bt935.1) then (if (rd y932 bt935.1) < (y929.length : Int) then (some (rdOf ByteArray.empty y929 (rd y932 bt935.1), bt935.2)) else (none)) else (none)) else (none)) else (none))))))) = some (r1, r2) := h
 clear h
 replace H := Option.bind_eq_some_iff.mp H
 obtain ⟨⟨t921, t922⟩, A30, H⟩ := H
 replace H : (if t921 = true then ((some (([(⟨#[]⟩ : ByteArray), (⟨#[97]⟩ : ByteArray), (⟨#[47, 47]⟩ : ByteArray), (⟨#[47, 97, 47]⟩ : ByteArray), (⟨#[47, 65]⟩ : ByteArray), (⟨#[47, 97, 47, 98, 47, 99, 47, 100]⟩ : ByteArray)] : List ByteArray) : List ByteArray)).bind fun y923 => ((spec_l20Rd_pick.f k s0_0 t922 6).bind fun bt926 => (if 0 ≤ bt926.1 then (if bt926.1 < (y923.length : Int) then (some (rdOf ByteArray.empty y923 bt926.1, bt926.2)) else (none)) else (none)))) else ((some (([(⟨#[47, 97]⟩ : ByteArray), (⟨#[47, 98]⟩ : ByteArray), (⟨#[47, 99]⟩ : ByteArray), (⟨#[47, 97, 47, 98]⟩ : ByteArray), (⟨#[47, 98, 47, 97]⟩ : ByteArray), (⟨#[47, 98, 47, 98, 47, 97]⟩ : ByteArray), (⟨#[47, 97, 47, 98, 47, 99]⟩ : ByteArray), (⟨#[47]⟩ : ByteArray)] : List ByteArray) : List ByteArray)).bind fun y929 => ((some (([0, 1, 2, 3, 4, 5, 6, 7, 0, 1, 2, 3, 4] : List Int) : List Int)).bind fun y932 => ((spec_l20Rd_pick.f k s0_0 t922 13).bind fun bt935 => (if 0 ≤ bt935.1 then (if bt935.1 < (y932.length : Int) then (if 0 ≤ (rd y932 bt935.1) then (if (rd y932 bt935.1) < (y929.length : Int) then (some (rdOf ByteArray.empty y929 (rd y932 bt935.1), bt935.2)) else (none)) else (none)) else (none)) else (none)))))) = some (r1, r2) := H
 have A3 := Aside0.mk A30
 clear A30
 by_cases c4 : t921 = true
 ·subst c4
  have H1 : ((some (([(⟨#[]⟩ : ByteArray), (⟨#[97]⟩ : ByteArray), (⟨#[47, 47]⟩ : ByteArray), (⟨#[47, 97, 47]⟩ : ByteArray), (⟨#[47, 65]⟩ : ByteArray), (⟨#[47, 97, 47, 98, 47, 99, 47, 100]⟩ : ByteArray)] : List ByteArray) : List ByteArray)).bind fun y923 => ((spec_l20Rd_pick.f k s0_0 t922 6).bind fun bt926 => (if 0 ≤ bt926.1 then (if bt926.1 < (y923.length : Int) then (some (rdOf ByteArray.empty y923 bt926.1, bt926.2)) else (none)) else (none)))) = some (r1, r2) := by rw [if_pos rfl] at H; exact H
  clear H
  have H := H1
  clear H1
  obtain ⟨y923, hy923⟩ : ∃ y_ : List ByteArray, y_ = (([(⟨#[]⟩ : ByteArray), (⟨#[97]⟩ : ByteArray), (⟨#[47, 47]⟩ : ByteArray), (⟨#[47, 97, 47]⟩ : ByteArray), (⟨#[47, 65]⟩ : ByteArray), (⟨#[47, 97, 47, 98, 47, 99, 47, 100]⟩ : ByteArray)] : List ByteArray)) := ⟨_, rfl⟩
  replace H : ((spec_l20Rd_pick.f k s0_0 t922 6).bind fun bt926 => (if 0 ≤ bt926.1 then (if bt926.1 < (y923.length : Int) then (some (rdOf ByteArray.empty y923 bt926.1, bt926.2)) else (none)) else (none))) = some (r1, r2) := hq_ hy923 H
  have Ny923 := Aside0.mk hy923
  clear hy923
  replace H := Option.bind_eq_some_iff.mp H
  obtain ⟨⟨t926, t927⟩, A50, H⟩ := H
  replace H : (if 0 ≤ t926 then (if t926 < (y923.length : Int) then (some (rdOf ByteArray.empty y923 t926, t927)) else (none)) else (none)) = some (r1, r2) := H
  have A5 := Aside0.mk A50
  clear A50
  by_cases c6 : 0 ≤ t926; rotate_left
  ·rw [if_neg c6] at H; exact absurd H (by simp)
  rw [if_pos c6] at H
  have c6b0 : decide (0 ≤ t926) = true := decide_eq_true c6
  clear c6
  by_cases c7 : t926 < (y923.length : Int); rotate_left
  ·rw [if_neg c7] at H; exact absurd H (by simp)
  rw [if_pos c7] at H
  have c7b0 : decide (t926 < (y923.length : Int)) = true := decide_eq_true c7
  clear c7
  simp only [Option.some.injEq, Prod.mk.injEq] at H
  obtain ⟨rfl, rfl⟩ := H
  go_enter Try.func97, Try.ntmps97
  go_wp2_with (first | ((with_reducible refine gate_callee (f := 74) rfl ?_); refine gl_ (some 7) Try.func74 #[.pointer (some ⟨g, 0, none⟩), .int .i64 a1] ?_; (with_reducible refine (spec_l20Rd_odd.calls k g s0_0 s0_1 a1 true t922 w0 _ ?side1 ?side2 A3.out).mono ?_); (case side1 => repeat (first | (with_reducible first | exact HI0.out | apply IsS91.alloc | apply IsS91.drewN | apply IsS91.drew | apply IsS91.set_1) | exact HI0.out)); (case side2 => exact hs_ (IsS91.ge HI0.out)); rintro e w8 ⟨rfl, hi, hb, hk⟩; refine ⟨_, rfl, ?_⟩; replace HK := Aside0.mk (KeepBut.trans hK0_ hk (.inl rfl)); replace HB := Aside0.mk (hb); replace HI0 := Aside0.mk (hi); (try clear hb); (try clear hk); (try clear hi)) | ((with_reducible refine gate_dst (N := 8) rfl ?_); refine Kd.R_lit Kd.string _ 9 ?hg (N := 8) ?hd (xs := ([(⟨#[]⟩ : ByteArray), (⟨#[97]⟩ : ByteArray), (⟨#[47, 47]⟩ : ByteArray), (⟨#[47, 97, 47]⟩ : ByteArray), (⟨#[47, 65]⟩ : ByteArray), (⟨#[47, 97, 47, 98, 47, 99, 47, 100]⟩ : ByteArray)] : List ByteArray)) (inner := [.string (⟨#[]⟩ : ByteArray), .string (⟨#[97]⟩ : ByteArray), .string (⟨#[47, 47]⟩ : ByteArray), .string (⟨#[47, 97, 47]⟩ : ByteArray), .string (⟨#[47, 65]⟩ : ByteArray), .string (⟨#[47, 97, 47, 98, 47, 99, 47, 100]⟩ : ByteArray)]) (ok := fun _ => True) (okp := fun _ => True) ?hr ?hp (fun _ hk => hk) trivial (Below.refl _ _) (Nat.le_refl _) (by simp) ?_; (case hd => rfl); (case hg => rfl); (case hr => first | (go_simp; done) | (go_simp; rfl)); (case hp => exact (Reps.one (show Kd.M Kd.string _ _ _ (⟨#[]⟩ : ByteArray) [.string (⟨#[]⟩ : ByteArray)] from rfl) (Reps.one (show Kd.M Kd.string _ _ _ (⟨#[97]⟩ : ByteArray) [.string (⟨#[97]⟩ : ByteArray)] from rfl) (Reps.one (show Kd.M Kd.string _ _ _ (⟨#[47, 47]⟩ : ByteArray) [.string (⟨#[47, 47]⟩ : ByteArray)] from rfl) (Reps.one (show Kd.M Kd.string _ _ _ (⟨#[47, 97, 47]⟩ : ByteArray) [.string (⟨#[47, 97, 47]⟩ : ByteArray)] from rfl) (Reps.one (show Kd.M Kd.string _ _ _ (⟨#[47, 65]⟩ : ByteArray) [.string (⟨#[47, 65]⟩ : ByteArray)] from rfl) (Reps.one (show Kd.M Kd.string _ _ _ (⟨#[47, 97, 47, 98, 47, 99, 47, 100]⟩ : ByteArray) [.string (⟨#[47, 97, 47, 98, 47, 99, 47, 100]⟩ : ByteArray)] from rfl) (Reps.none _ _)))))))); intro v924 w9 ho10 hb hg_ hnew_; clear hg_ hnew_; (first | rw [← Ny923.out] at ho10 | (simp only [Int.reduceToNat] at ho10; rw [← Ny923.out] at ho10)); have HO925 := Aside0.mk (Kd.R_lower ho10 (keep_size (w := w) (g := g) (row := none) hK0_)); replace HK := Aside0.mk (KeepBut.trans hK0_ (KeepBut.of_below hb g none) (.inl rfl)); replace HB := Aside0.mk (below_step (hs_ (IsS91.ge HI0.out)) hb); replace HI0 := Aside0.mk (IsS91.below (by repeat (first | (with_reducible first | exact HI0.out | apply IsS91.alloc | apply IsS91.drewN | apply IsS91.drew | apply IsS91.set_1) | exact HI0.out)) hb); clear hb ho10) | ((with_reducible refine gate_callee (f := 70) rfl ?_); refine gl_ (some 10) Try.func70 #[.pointer (some ⟨g, 0, none⟩), .int .i64 6] ?_; (with_reducible refine (spec_l20Rd_pick.calls k g s0_0 t922 6 t926 t927 w0 _ ?side1 ?side2 A5.out).mono ?_); (case side1 => repeat (first | (with_reducible first | exact HI0.out | apply IsS91.alloc | apply IsS91.drewN | apply IsS91.drew | apply IsS91.set_1) | exact HI0.out)); (case side2 => exact hs_ (IsS91.ge HI0.out)); rintro e w11 ⟨rfl, hi, hb, hk⟩; refine ⟨_, rfl, ?_⟩; replace HO925 := Aside0.mk (Kd.R_mono (Kd.R_keep (IsS91.apart (show IsS91 w0 _ g s0_0 t922 from by repeat (first | (with_reducible first | exact HI0.out | apply IsS91.alloc | apply IsS91.drewN | apply IsS91.drew | apply IsS91.set_1) | exact HI0.out)) (kR_ HO925.out) (by decide)) hk (fun _ h => h.2)) (fun _ h => h.1)); replace HK := Aside0.mk (KeepBut.trans hK0_ hk (.inl rfl)); replace HB := Aside0.mk (hb); replace HI0 := Aside0.mk (hi); (try clear hb); (try clear hk); (try clear hi); obtain ⟨Ao12, co12, eo12⟩ := Kd.R_slice HO925.out; subst eo12; have p928 : 0 ≤ (t926 : Int) := dt_; have q928 : t926 < (y923.length : Int) := dt_; obtain ⟨ad928, e928, hx928_0⟩ := Kd.at_string (Kd.R_reads' HO925.out).2.2 t926 p928 q928; cases e928; replace p928 := eq_true p928; replace q928 := eq_true q928))
  go_ret
  exact ⟨er_, by repeat (first | (with_reducible first | exact HI0.out | apply IsS91.alloc | apply IsS91.drewN | apply IsS91.drew | apply IsS91.set_1) | exact HI0.out), hs_ (IsS91.ge HI0.out), by repeat (first | (with_reducible first | exact HK.out | apply KeepBut.set_ | apply keep_drewN | apply keep_drew | apply keep_alloc) | exact HK.out)⟩
 ·replace c4 := Bool.eq_false_iff.mpr c4
  subst c4
  have H1 : ((some (([(⟨#[47, 97]⟩ : ByteArray), (⟨#[47, 98]⟩ : ByteArray), (⟨#[47, 99]⟩ : ByteArray), (⟨#[47, 97, 47, 98]⟩ : ByteArray), (⟨#[47, 98, 47, 97]⟩ : ByteArray), (⟨#[47, 98, 47, 98, 47, 97]⟩ : ByteArray), (⟨#[47, 97, 47, 98, 47, 99]⟩ : ByteArray), (⟨#[47]⟩ : ByteArray)] : List ByteArray) : List ByteArray)).bind fun y929 => ((some (([0, 1, 2, 3, 4, 5, 6, 7, 0, 1, 2, 3, 4] : List Int) : List Int)).bind fun y932 => ((spec_l20Rd_pick.f k s0_0 t922 13).bind fun bt935 => (if 0 ≤ bt935.1 then (if bt935.1 < (y932.length : Int) then (if 0 ≤ (rd y932 bt935.1) then (if (rd y932 bt935.1) < (y929.length : Int) then (some (rdOf ByteArray.empty y929 (rd y932 bt935.1), bt935.2)) else (none)) else (none)) else (none)) else (none))))) = some (r1, r2) := by rw [if_neg (show ¬ (false = true) by decide)] at H; exact H
  clear H
  have H := H1
  clear H1
  obtain ⟨y929, hy929⟩ : ∃ y_ : List ByteArray, y_ = (([(⟨#[47, 97]⟩ : ByteArray), (⟨#[47, 98]⟩ : ByteArray), (⟨#[47, 99]⟩ : ByteArray), (⟨#[47, 97, 47, 98]⟩ : ByteArray), (⟨#[47, 98, 47, 97]⟩ : ByteArray), (⟨#[47, 98, 47, 98, 47, 97]⟩ : ByteArray), (⟨#[47, 97, 47, 98, 47, 99]⟩ : ByteArray), (⟨#[47]⟩ : ByteArray)] : List ByteArray)) := ⟨_, rfl⟩
  replace H : ((some (([0, 1, 2, 3, 4, 5, 6, 7, 0, 1, 2, 3, 4] : List Int) : List Int)).bind fun y932 => ((spec_l20Rd_pick.f k s0_0 t922 13).bind fun bt935 => (if 0 ≤ bt935.1 then (if bt935.1 < (y932.length : Int) then (if 0 ≤ (rd y932 bt935.1) then (if (rd y932 bt935.1) < (y929.length : Int) then (some (rdOf ByteArray.empty y929 (rd y932 bt935.1), bt935.2)) else (none)) else (none)) else (none)) else (none)))) = some (r1, r2) := hq_ hy929 H
  have Ny929 := Aside0.mk hy929
  clear hy929
  obtain ⟨y932, hy932⟩ : ∃ y_ : List Int, y_ = (([0, 1, 2, 3, 4, 5, 6, 7, 0, 1, 2, 3, 4] : List Int)) := ⟨_, rfl⟩
  replace H : ((spec_l20Rd_pick.f k s0_0 t922 13).bind fun bt935 => (if 0 ≤ bt935.1 then (if bt935.1 < (y932.length : Int) then (if 0 ≤ (rd y932 bt935.1) then (if (rd y932 bt935.1) < (y929.length : Int) then (some (rdOf ByteArray.empty y929 (rd y932 bt935.1), bt935.2)) else (none)) else (none)) else (none)) else (none))) = some (r1, r2) := hq_ hy932 H
  have Ny932 := Aside0.mk hy932
  clear hy932
  replace H := Option.bind_eq_some_iff.mp H
  obtain ⟨⟨t935, t936⟩, A130, H⟩ := H
  replace H : (if 0 ≤ t935 then (if t935 < (y932.length : Int) then (if 0 ≤ (rd y932 t935) then (if (rd y932 t935) < (y929.length : Int) then (some (rdOf ByteArray.empty y929 (rd y932 t935), t936)) else (none)) else (none)) else (none)) else (none)) = some (r1, r2) := H
  have A13 := Aside0.mk A130
  clear A130
  by_cases c14 : 0 ≤ t935; rotate_left
  ·rw [if_neg c14] at H; exact absurd H (by simp)
  rw [if_pos c14] at H
  have c14b0 : decide (0 ≤ t935) = true := decide_eq_true c14
  clear c14
  by_cases c15 : t935 < (y932.length : Int); rotate_left
  ·rw [if_neg c15] at H; exact absurd H (by simp)
  rw [if_pos c15] at H
  have c15b0 : decide (t935 < (y932.length : Int)) = true := decide_eq_true c15
  clear c15
  by_cases c16 : 0 ≤ (rd y932 t935); rotate_left
  ·rw [if_neg c16] at H; exact absurd H (by simp)
  rw [if_pos c16] at H
  have c16b0 : decide (0 ≤ (rd y932 t935)) = true := decide_eq_true c16
  clear c16
  by_cases c17 : (rd y932 t935) < (y929.length : Int); rotate_left
  ·rw [if_neg c17] at H; exact absurd H (by simp)
  rw [if_pos c17] at H
  have c17b0 : decide ((rd y932 t935) < (y929.length : Int)) = true := decide_eq_true c17
  clear c17
  simp only [Option.some.injEq, Prod.mk.injEq] at H
  obtain ⟨rfl, rfl⟩ := H
  go_enter Try.func97, Try.ntmps97
  go_wp2_with (first | ((with_reducible refine gate_callee (f := 74) rfl ?_); refine gl_ (some 7) Try.func74 #[.pointer (some ⟨g, 0, none⟩), .int .i64 a1] ?_; (with_reducible refine (spec_l20Rd_odd.calls k g s0_0 s0_1 a1 false t922 w0 _ ?side1 ?side2 A3.out).mono ?_); (case side1 => repeat (first | (with_reducible first | exact HI0.out | apply IsS91.alloc | apply IsS91.drewN | apply IsS91.drew | apply IsS91.set_1) | exact HI0.out)); (case side2 => exact hs_ (IsS91.ge HI0.out)); rintro e w18 ⟨rfl, hi, hb, hk⟩; refine ⟨_, rfl, ?_⟩; replace HK := Aside0.mk (KeepBut.trans hK0_ hk (.inl rfl)); replace HB := Aside0.mk (hb); replace HI0 := Aside0.mk (hi); (try clear hb); (try clear hk); (try clear hi)) | ((with_reducible refine gate_dst (N := 13) rfl ?_); refine Kd.R_lit Kd.string _ 9 ?hg (N := 13) ?hd (xs := ([(⟨#[47, 97]⟩ : ByteArray), (⟨#[47, 98]⟩ : ByteArray), (⟨#[47, 99]⟩ : ByteArray), (⟨#[47, 97, 47, 98]⟩ : ByteArray), (⟨#[47, 98, 47, 97]⟩ : ByteArray), (⟨#[47, 98, 47, 98, 47, 97]⟩ : ByteArray), (⟨#[47, 97, 47, 98, 47, 99]⟩ : ByteArray), (⟨#[47]⟩ : ByteArray)] : List ByteArray)) (inner := [.string (⟨#[47, 97]⟩ : ByteArray), .string (⟨#[47, 98]⟩ : ByteArray), .string (⟨#[47, 99]⟩ : ByteArray), .string (⟨#[47, 97, 47, 98]⟩ : ByteArray), .string (⟨#[47, 98, 47, 97]⟩ : ByteArray), .string (⟨#[47, 98, 47, 98, 47, 97]⟩ : ByteArray), .string (⟨#[47, 97, 47, 98, 47, 99]⟩ : ByteArray), .string (⟨#[47]⟩ : ByteArray)]) (ok := fun _ => True) (okp := fun _ => True) ?hr ?hp (fun _ hk => hk) trivial (Below.refl _ _) (Nat.le_refl _) (by simp) ?_; (case hd => rfl); (case hg => rfl); (case hr => first | (go_simp; done) | (go_simp; rfl)); (case hp => exact (Reps.one (show Kd.M Kd.string _ _ _ (⟨#[47, 97]⟩ : ByteArray) [.string (⟨#[47, 97]⟩ : ByteArray)] from rfl) (Reps.one (show Kd.M Kd.string _ _ _ (⟨#[47, 98]⟩ : ByteArray) [.string (⟨#[47, 98]⟩ : ByteArray)] from rfl) (Reps.one (show Kd.M Kd.string _ _ _ (⟨#[47, 99]⟩ : ByteArray) [.string (⟨#[47, 99]⟩ : ByteArray)] from rfl) (Reps.one (show Kd.M Kd.string _ _ _ (⟨#[47, 97, 47, 98]⟩ : ByteArray) [.string (⟨#[47, 97, 47, 98]⟩ : ByteArray)] from rfl) (Reps.one (show Kd.M Kd.string _ _ _ (⟨#[47, 98, 47, 97]⟩ : ByteArray) [.string (⟨#[47, 98, 47, 97]⟩ : ByteArray)] from rfl) (Reps.one (show Kd.M Kd.string _ _ _ (⟨#[47, 98, 47, 98, 47, 97]⟩ : ByteArray) [.string (⟨#[47, 98, 47, 98, 47, 97]⟩ : ByteArray)] from rfl) (Reps.one (show Kd.M Kd.string _ _ _ (⟨#[47, 97, 47, 98, 47, 99]⟩ : ByteArray) [.string (⟨#[47, 97, 47, 98, 47, 99]⟩ : ByteArray)] from rfl) (Reps.one (show Kd.M Kd.string _ _ _ (⟨#[47]⟩ : ByteArray) [.string (⟨#[47]⟩ : ByteArray)] from rfl) (Reps.none _ _)))))))))); intro v930 w19 ho20 hb hg_ hnew_; clear hg_ hnew_; (first | rw [← Ny929.out] at ho20 | (simp only [Int.reduceToNat] at ho20; rw [← Ny929.out] at ho20)); have HO931 := Aside0.mk (Kd.R_lower ho20 (keep_size (w := w) (g := g) (row := none) hK0_)); replace HK := Aside0.mk (KeepBut.trans hK0_ (KeepBut.of_below hb g none) (.inl rfl)); replace HB := Aside0.mk (below_step (hs_ (IsS91.ge HI0.out)) hb); replace HI0 := Aside0.mk (IsS91.below (by repeat (first | (with_reducible first | exact HI0.out | apply IsS91.alloc | apply IsS91.drewN | apply IsS91.drew | apply IsS91.set_1) | exact HI0.out)) hb); clear hb ho20) | ((with_reducible refine gate_dst (N := 14) rfl ?_); refine Kd.R_lit (Kd.int .i64) _ 3 ?hg (N := 14) ?hd (xs := ([0, 1, 2, 3, 4, 5, 6, 7, 0, 1, 2, 3, 4] : List Int)) (inner := [.int .i64 0, .int .i64 1, .int .i64 2, .int .i64 3, .int .i64 4, .int .i64 5, .int .i64 6, .int .i64 7, .int .i64 0, .int .i64 1, .int .i64 2, .int .i64 3, .int .i64 4]) (ok := fun _ => True) (okp := fun _ => True) ?hr ?hp (fun _ hk => hk) trivial (Below.refl _ _) (Nat.le_refl _) (by simp) ?_; (case hd => rfl); (case hg => rfl); (case hr => first | (go_simp; done) | (go_simp; rfl)); (case hp => exact (Reps.one (show Kd.M (Kd.int .i64) _ _ _ 0 [.int .i64 0] from rfl) (Reps.one (show Kd.M (Kd.int .i64) _ _ _ 1 [.int .i64 1] from rfl) (Reps.one (show Kd.M (Kd.int .i64) _ _ _ 2 [.int .i64 2] from rfl) (Reps.one (show Kd.M (Kd.int .i64) _ _ _ 3 [.int .i64 3] from rfl) (Reps.one (show Kd.M (Kd.int .i64) _ _ _ 4 [.int .i64 4] from rfl) (Reps.one (show Kd.M (Kd.int .i64) _ _ _ 5 [.int .i64 5] from rfl) (Reps.one (show Kd.M (Kd.int .i64) _ _ _ 6 [.int .i64 6] from rfl) (Reps.one (show Kd.M (Kd.int .i64) _ _ _ 7 [.int .i64 7] from rfl) (Reps.one (show Kd.M (Kd.int .i64) _ _ _ 0 [.int .i64 0] from rfl) (Reps.one (show Kd.M (Kd.int .i64) _ _ _ 1 [.int .i64 1] from rfl) (Reps.one (show Kd.M (Kd.int .i64) _ _ _ 2 [.int .i64 2] from rfl) (Reps.one (show Kd.M (Kd.int .i64) _ _ _ 3 [.int .i64 3] from rfl) (Reps.one (show Kd.M (Kd.int .i64) _ _ _ 4 [.int .i64 4] from rfl) (Reps.none _ _))))))))))))))); intro v933 w21 ho22 hb hg_ hnew_; clear hg_ hnew_; (first | rw [← Ny932.out] at ho22 | (simp only [Int.reduceToNat] at ho22; rw [← Ny932.out] at ho22)); replace HO931 := Aside0.mk (Kd.R_below (kR_ HO931.out) hb); have HO934 := Aside0.mk (Kd.R_lower ho22 (keep_size (w := w) (g := g) (row := none) hK0_)); replace HK := Aside0.mk (KeepBut.trans hK0_ (KeepBut.of_below hb g none) (.inl rfl)); replace HB := Aside0.mk (below_step (hs_ (IsS91.ge HI0.out)) hb); replace HI0 := Aside0.mk (IsS91.below (by repeat (first | (with_reducible first | exact HI0.out | apply IsS91.alloc | apply IsS91.drewN | apply IsS91.drew | apply IsS91.set_1) | exact HI0.out)) hb); clear hb ho22) | ((with_reducible refine gate_callee (f := 70) rfl ?_); refine gl_ (some 16) Try.func70 #[.pointer (some ⟨g, 0, none⟩), .int .i64 13] ?_; (with_reducible refine (spec_l20Rd_pick.calls k g s0_0 t922 13 t935 t936 w0 _ ?side1 ?side2 A13.out).mono ?_); (case side1 => repeat (first | (with_reducible first | exact HI0.out | apply IsS91.alloc | apply IsS91.drewN | apply IsS91.drew | apply IsS91.set_1) | exact HI0.out)); (case side2 => exact hs_ (IsS91.ge HI0.out)); rintro e w23 ⟨rfl, hi, hb, hk⟩; refine ⟨_, rfl, ?_⟩; replace HO931 := Aside0.mk (Kd.R_mono (Kd.R_keep (IsS91.apart (show IsS91 w0 _ g s0_0 t922 from by repeat (first | (with_reducible first | exact HI0.out | apply IsS91.alloc | apply IsS91.drewN | apply IsS91.drew | apply IsS91.set_1) | exact HI0.out)) (kR_ HO931.out) (by decide)) hk (fun _ h => h.2)) (fun _ h => h.1)); replace HO934 := Aside0.mk (Kd.R_mono (Kd.R_keep (IsS91.apart (show IsS91 w0 _ g s0_0 t922 from by repeat (first | (with_reducible first | exact HI0.out | apply IsS91.alloc | apply IsS91.drewN | apply IsS91.drew | apply IsS91.set_1) | exact HI0.out)) (kR_ HO934.out) (by decide)) hk (fun _ h => h.2)) (fun _ h => h.1)); replace HK := Aside0.mk (KeepBut.trans hK0_ hk (.inl rfl)); replace HB := Aside0.mk (hb); replace HI0 := Aside0.mk (hi); (try clear hb); (try clear hk); (try clear hi); obtain ⟨Ao24, co24, eo24⟩ := Kd.R_slice HO934.out; subst eo24; have p937 : 0 ≤ (t935 : Int) := dt_; have q937 : t935 < (y932.length : Int) := dt_; obtain ⟨ad937, e937, hx937_0⟩ := Kd.at_int (Kd.R_reads' HO934.out).2.2 t935 p937 q937; cases e937; replace p937 := eq_true p937; replace q937 := eq_true q937; obtain ⟨Ao25, co25, eo25⟩ := Kd.R_slice HO931.out; subst eo25; have p938 : 0 ≤ ((rd y932 t935) : Int) := dt_; have q938 : (rd y932 t935) < (y929.length : Int) := dt_; obtain ⟨ad938, e938, hx938_0⟩ := Kd.at_string (Kd.R_reads' HO931.out).2.2 (rd y932 t935) p938 q938; cases e938; replace p938 := eq_true p938; replace q938 := eq_true q938))
  go_ret
  exact ⟨er_, by repeat (first | (with_reducible first | exact HI0.out | apply IsS91.alloc | apply IsS91.drewN | apply IsS91.drew | apply IsS91.set_1) | exact HI0.out), hs_ (IsS91.ge HI0.out), by repeat (first | (with_reducible first | exact HK.out | apply KeepBut.set_ | apply keep_drewN | apply keep_drew | apply keep_alloc) | exact HK.out)⟩
/-! ### spec_JoinPath: function 113 -/
def spec_JoinPath.l0 : Nat → List ByteArray → ByteArray → Int → Option (ByteArray)
 | 0, _, _, _ => none
 | k + 1, x0, x3, x4 => if x4 < (x0.length : Int) then (if 0 ≤ x4 then ((spec_WordValid.f k (rdOf ByteArray.empty x0 x4)).bind fun t940 => (if t940 = true then (if (x0.length : Int) > 3 then (some (⟨#[]⟩ : ByteArray)) else (if x3.size + 1 ≤ 9223372036854775807 then (if (x3 ++ (⟨#[47]⟩ : ByteArray)).size + (rdOf ByteArray.empty x0 x4).size ≤ 9223372036854775807 then (spec_JoinPath.l0 k x0 ((x3 ++ (⟨#[47]⟩ : ByteArray)) ++ (rdOf ByteArray.empty x0 x4)) (wrap64 (x4 + 1))) else (none)) else (none))) else (some (⟨#[]⟩ : ByteArray)))) else (none)) else (if x3.toList = ([] : List UInt8) then (some (⟨#[47]⟩ : ByteArray)) else (some x3))
def spec_JoinPath.f (k : Nat) (l0 : List ByteArray) : Option (ByteArray) := spec_JoinPath.l0 k l0 (⟨#[]⟩ : ByteArray) 0
set_option maxHeartbeats 8000000 in
set_option maxRecDepth 100000 in
theorem spec_JoinPath.calls (k : Nat) (A0 : Option Addr) (c0 : Nat) (l0 : List ByteArray) (r : ByteArray) (w : World) (hr0 : Kd.C Kd.string w A0 l0.length l0) (hc0 : l0.length ≤ c0) (h : spec_JoinPath.f k l0 = some r) :
  Calls Try.prog 113 #[.slice A0 l0.length c0] w fun e w' => e = .returned (.string r) ∧ Drawn0 w w' := by
 have HR0 := Aside0.mk hr0
 have HC0 := Aside0.mk hc0
 clear hr0 hc0
 have H : (spec_JoinPath.l0 k l0 (⟨#[]⟩ : ByteArray) 0) = some r := h
 clear h
 have H' := Aside0.mk H
 clear H
 go_enter Try.func113, Try.ntmps113
 go_wp2
 go_loopg [3, 4] k (fun kq v3 v4 w' => ∃ (x3_1 : ByteArray) (x4_1 : Int), v3 = .string x3_1 ∧ v4 = .int .i64 x4_1 ∧ Aside0 (spec_JoinPath.l0 kq l0 x3_1 x4_1 = some r) ∧ Aside0 (kq ≤ k) ∧ Drawn0 w w')
 case atStart => exact ⟨((⟨#[]⟩ : ByteArray)), (0), rs_, rs_, H', ⟨Nat.le_refl _⟩, dw_⟩
 case round =>
  clear H'
  try clear c1
  obtain ⟨x3_1, x4_1, rfl, rfl, HA, HK1, ⟨m1, rfl⟩⟩ := hrel
  cases gk with
  | zero => exact absurd HA.out (by simp [spec_JoinPath.l0])
  | succ k1 =>
   have H := HA.out
   clear HA
   simp only [spec_JoinPath.l0] at H
   by_cases c2 : x4_1 < (l0.length : Int)
   ·rw [if_pos c2] at H
    have c2b0 : decide (x4_1 < (l0.length : Int)) = true := decide_eq_true c2
    clear c2
    by_cases c3 : 0 ≤ x4_1; rotate_left
    ·rw [if_neg c3] at H; exact absurd H (by simp)
    rw [if_pos c3] at H
    have c3b0 : decide (0 ≤ x4_1) = true := decide_eq_true c3
    clear c3
    replace H := Option.bind_eq_some_iff.mp H
    obtain ⟨t940, A40, H⟩ := H
    replace H : (if t940 = true then (if (l0.length : Int) > 3 then (some (⟨#[]⟩ : ByteArray)) else (if x3_1.size + 1 ≤ 9223372036854775807 then (if (x3_1 ++ (⟨#[47]⟩ : ByteArray)).size + (rdOf ByteArray.empty l0 x4_1).size ≤ 9223372036854775807 then (spec_JoinPath.l0 k1 l0 ((x3_1 ++ (⟨#[47]⟩ : ByteArray)) ++ (rdOf ByteArray.empty l0 x4_1)) (wrap64 (x4_1 + 1))) else (none)) else (none))) else (some (⟨#[]⟩ : ByteArray))) = some r := H
    have A4 := Aside0.mk A40
    clear A40
    by_cases c5 : t940 = true
    ·subst c5
     have H1 : (if (l0.length : Int) > 3 then (some (⟨#[]⟩ : ByteArray)) else (if x3_1.size + 1 ≤ 9223372036854775807 then (if (x3_1 ++ (⟨#[47]⟩ : ByteArray)).size + (rdOf ByteArray.empty l0 x4_1).size ≤ 9223372036854775807 then (spec_JoinPath.l0 k1 l0 ((x3_1 ++ (⟨#[47]⟩ : ByteArray)) ++ (rdOf ByteArray.empty l0 x4_1)) (wrap64 (x4_1 + 1))) else (none)) else (none))) = some r := by rw [if_pos rfl] at H; exact H
     clear H
     have H := H1
     clear H1
     by_cases c6 : (l0.length : Int) > 3
     ·rw [if_pos c6] at H
      have c6b0 : decide (3 < (l0.length : Int)) = true := decide_eq_true c6
      have c6b1 : decide (3 < l0.length) = true := decide_eq_true (by omega)
      clear c6
      obtain rfl := Option.some.inj H
      have p939 : 0 ≤ (x4_1 : Int) := dt_
      have q939 : x4_1 < (l0.length : Int) := dt_
      obtain ⟨ad939, e939, hx939_0⟩ := Kd.at_string HR0.out x4_1 p939 q939
      cases e939
      replace p939 := eq_true p939
      replace q939 := eq_true q939
      go_wp2_with (first | ((with_reducible refine gate_callee (f := 112) rfl ?_); refine gl_ (some 15) Try.func112 #[.string (rdOf ByteArray.empty l0 x4_1)] ?_; (with_reducible refine (spec_WordValid.calls k1 (rdOf ByteArray.empty l0 x4_1) true _ A4.out).mono ?_); rintro e w' ⟨rfl, ⟨nd, rfl⟩⟩; refine ⟨_, rfl, ?_⟩))
      go_ret
      exact ⟨rs_, dw_⟩
     ·rw [if_neg c6] at H
      have c6b0 : decide (3 < (l0.length : Int)) = false := decide_eq_false c6
      have c6b1 : decide (3 < l0.length) = false := decide_eq_false (by omega)
      clear c6
      by_cases c7 : x3_1.size + 1 ≤ 9223372036854775807; rotate_left
      ·rw [if_neg c7] at H; exact absurd H (by simp)
      rw [if_pos c7] at H
      have c7b0 := eq_true c7
      have c7b1 : decide (x3_1.size + 1 ≤ 9223372036854775807) = true := decide_eq_true c7
      try have c7b2 : (9223372036854775807 < x3_1.size + 1) = False := eq_false (Nat.not_lt.2 c7)
      by_cases c8 : (x3_1 ++ (⟨#[47]⟩ : ByteArray)).size + (rdOf ByteArray.empty l0 x4_1).size ≤ 9223372036854775807; rotate_left
      ·rw [if_neg c8] at H; exact absurd H (by simp)
      rw [if_pos c8] at H
      have c8b0 := eq_true c8
      have c8b1 : decide ((x3_1 ++ (⟨#[47]⟩ : ByteArray)).size + (rdOf ByteArray.empty l0 x4_1).size ≤ 9223372036854775807) = true := decide_eq_true c8
      try have c8b2 : (9223372036854775807 < (x3_1 ++ (⟨#[47]⟩ : ByteArray)).size + (rdOf ByteArray.empty l0 x4_1).size) = False := eq_false (Nat.not_lt.2 c8)
      try have c8b5 : (x3_1.size + 1 + (rdOf ByteArray.empty l0 x4_1).size ≤ 9223372036854775807) = True := eq_true (by first | exact c8 | exact (by have h_ := c8; have hl0_ : (⟨#[47]⟩ : ByteArray).size = 1 := rfl; simp only [ByteArray.size_append, ByteArray.size_extract] at h_ ⊢; omega))
      try have c8b6 : decide (x3_1.size + 1 + (rdOf ByteArray.empty l0 x4_1).size ≤ 9223372036854775807) = true := decide_eq_true (of_eq_true c8b5)
      try have c8b7 : (9223372036854775807 < x3_1.size + 1 + (rdOf ByteArray.empty l0 x4_1).size) = False := eq_false (Nat.not_lt.2 (of_eq_true c8b5))
      have H' := Aside0.mk H
      clear H
      have p939 : 0 ≤ (x4_1 : Int) := dt_
      have q939 : x4_1 < (l0.length : Int) := dt_
      obtain ⟨ad939, e939, hx939_0⟩ := Kd.at_string HR0.out x4_1 p939 q939
      cases e939
      replace p939 := eq_true p939
      replace q939 := eq_true q939
      go_wp2_with (first | ((with_reducible refine gate_callee (f := 112) rfl ?_); refine gl_ (some 15) Try.func112 #[.string (rdOf ByteArray.empty l0 x4_1)] ?_; (with_reducible refine (spec_WordValid.calls k1 (rdOf ByteArray.empty l0 x4_1) true _ A4.out).mono ?_); rintro e w' ⟨rfl, ⟨nd, rfl⟩⟩; refine ⟨_, rfl, ?_⟩; have p941 : 0 ≤ (x4_1 : Int) := dt_; have q941 : x4_1 < (l0.length : Int) := dt_; obtain ⟨ad941, e941, hx941_0⟩ := Kd.at_string HR0.out x4_1 p941 q941; obtain rfl : ad939 = ad941 := (by injection e941); replace p941 := eq_true p941; replace q941 := eq_true q941))
      go_roundg k1
      case measure => have := HK1.out; omega
      case rel => exact ⟨((x3_1 ++ (⟨#[47]⟩ : ByteArray)) ++ (rdOf ByteArray.empty l0 x4_1)), (wrap64 (x4_1 + 1)), rs_, rs_, H', ⟨by have := HK1.out; omega⟩, dw_⟩
    ·replace c5 := Bool.eq_false_iff.mpr c5
     subst c5
     have H1 : (some (⟨#[]⟩ : ByteArray)) = some r := by rw [if_neg (show ¬ (false = true) by decide)] at H; exact H
     clear H
     have H := H1
     clear H1
     obtain rfl := Option.some.inj H
     have p939 : 0 ≤ (x4_1 : Int) := dt_
     have q939 : x4_1 < (l0.length : Int) := dt_
     obtain ⟨ad939, e939, hx939_0⟩ := Kd.at_string HR0.out x4_1 p939 q939
     cases e939
     replace p939 := eq_true p939
     replace q939 := eq_true q939
     go_wp2_with (first | ((with_reducible refine gate_callee (f := 112) rfl ?_); refine gl_ (some 15) Try.func112 #[.string (rdOf ByteArray.empty l0 x4_1)] ?_; (with_reducible refine (spec_WordValid.calls k1 (rdOf ByteArray.empty l0 x4_1) false _ A4.out).mono ?_); rintro e w' ⟨rfl, ⟨nd, rfl⟩⟩; refine ⟨_, rfl, ?_⟩))
     go_ret
     exact ⟨rs_, dw_⟩
   ·rw [if_neg c2] at H
    have c2b0 : decide (x4_1 < (l0.length : Int)) = false := decide_eq_false c2
    clear c2
    by_cases c9 : x3_1.toList = ([] : List UInt8)
    ·rw [if_pos c9] at H
     have c9b0 : (x3_1.toList == ([] : List UInt8)) = true := beq_iff_eq.mpr c9
     have c9b1 : (x3_1.toList != ([] : List UInt8)) = false := bne_eq_false_iff_eq.mpr c9
     clear c9
     obtain rfl := Option.some.inj H
     go_wp2
     go_ret
     exact ⟨rs_, dw_⟩
    ·rw [if_neg c9] at H
     have c9b0 : (x3_1.toList == ([] : List UInt8)) = false := beq_eq_false_iff_ne.mpr c9
     have c9b1 : (x3_1.toList != ([] : List UInt8)) = true := bne_iff_ne.mpr c9
     obtain rfl := Option.some.inj H
     go_wp2
     go_ret
     exact ⟨rs_, dw_⟩
/-! ### spec_PathParts: function 104 -/
def spec_PathParts.l0 : Nat → ByteArray → List ByteArray → Int → Option (List ByteArray × Bool)
 | 0, _, _, _ => none
 | k + 1, x0, x4, x5 => if x5 < (x0.size : Int) then (if 0 ≤ x5 then (if (bt x0 x5) = 47 then (if x4.length < 8796093022208 then (spec_PathParts.l0 k x0 (x4 ++ [(⟨#[]⟩ : ByteArray)]) (wrap64 (x5 + 1))) else (none)) else (if (x4.length : Int) > 0 then (if 0 ≤ (wrap64 ((x4.length : Int) - 1)) then (if (wrap64 ((x4.length : Int) - 1)) < (x4.length : Int) then (if x5 ≤ (wrap64 (x5 + 1)) then (if (wrap64 (x5 + 1)) ≤ (x0.size : Int) then (if (rdOf ByteArray.empty x4 (wrap64 ((x4.length : Int) - 1))).size + (x0.extract (x5 : Int).toNat ((wrap64 (x5 + 1)) : Int).toNat).size ≤ 9223372036854775807 then (spec_PathParts.l0 k x0 (x4.set ((wrap64 ((x4.length : Int) - 1)) : Int).toNat ((rdOf ByteArray.empty x4 (wrap64 ((x4.length : Int) - 1))) ++ (x0.extract (x5 : Int).toNat ((wrap64 (x5 + 1)) : Int).toNat))) (wrap64 (x5 + 1))) else (none)) else (none)) else (none)) else (none)) else (none)) else (spec_PathParts.l0 k x0 x4 (wrap64 (x5 + 1))))) else (none)) else (if x0.toList = ([] : List UInt8) then (some ((([] : List ByteArray)), false)) else ((spec_JoinPath.f k x4).bind fun t953 => (if t953.toList = x0.toList then (some (x4, true)) else (some ((([] : List ByteArray)), false)))))
def spec_PathParts.f (k : Nat) (a0 : ByteArray) : Option (List ByteArray × Bool) := (some (([] : List ByteArray) : List ByteArray)).bind fun y942 => (if a0.toList = ([47] : List UInt8) then (some (y942, true)) else (spec_PathParts.l0 k a0 y942 0))
def spec_PathParts.T10 : Bool × List (List Nat × List Nat) := (true, [([], []), ([], []), ([1], [1]), ([2], [2]), ([], []), ([], []), ([5], [5]), ([6], [6]), ([4, 7], [4, 7]), ([8], [8]), ([], []), ([], []), ([], []), ([12], [12]), ([10, 11, 13], [10, 11, 13]), ([9, 14], [9, 14]), ([0, 3, 0, 1, 2, 3, 4, 5, 6, 7, 8, 9, 10, 11, 12, 13, 14, 15], [0, 3]), ([16, 15, 0, 1, 2, 3, 4, 5, 6, 7, 8, 9, 10, 11, 12, 13, 14, 15], [15, 16])])
def spec_PathParts.B10 : List Nat := [0, 0, 2, 6, 0, 0, 32, 96, 240, 496, 0, 0, 0, 4096, 15360, 32752, 65535, 131071]
theorem spec_PathParts.tab10 : rtab .any (opsOf Try.f104 10) = spec_PathParts.T10 := by kernel_rfl
theorem spec_PathParts.bits10 : waitsOk spec_PathParts.T10.2 spec_PathParts.B10 = true := by kernel_rfl
set_option maxHeartbeats 8000000 in
set_option maxRecDepth 100000 in
theorem spec_PathParts.calls (k : Nat) (a0 : ByteArray) (r1 : List ByteArray) (r2 : Bool) (w : World) (h : spec_PathParts.f k a0 = some (r1, r2)) :
  Calls Try.prog 104 #[.string a0] w fun e w' => ∃ v0_ : Value, e = .returned (.tuple #[v0_, .bool r2]) ∧ Kd.R Kd.string 9 w' w.heap.size (fun _ => True) v0_ r1 ∧ Below w.heap.size w w' := by
 have HB := Aside0.mk (Below.refl w.heap.size w)
 have H : ((some (([] : List ByteArray) : List ByteArray)).bind fun y942 => (if a0.toList = ([47] : List UInt8) then (some (y942, true)) else (spec_PathParts.l0 k a0 y942 0))) = some (r1, r2) := h
 clear h
 obtain ⟨y942, hy942⟩ : ∃ y_ : List ByteArray, y_ = (([] : List ByteArray)) := ⟨_, rfl⟩
 replace H : (if a0.toList = ([47] : List UInt8) then (some (y942, true)) else (spec_PathParts.l0 k a0 y942 0)) = some (r1, r2) := hq_ hy942 H
 have Ny942 := Aside0.mk hy942
 clear hy942
 by_cases c2 : a0.toList = ([47] : List UInt8)
 ·rw [if_pos c2] at H
  have c2b0 : (a0.toList == ([47] : List UInt8)) = true := beq_iff_eq.mpr c2
  have c2b1 : (a0.toList != ([47] : List UInt8)) = false := bne_eq_false_iff_eq.mpr c2
  clear c2
  simp only [Option.some.injEq, Prod.mk.injEq] at H
  obtain ⟨rfl, rfl⟩ := H
  go_enter Try.func104, Try.ntmps104
  go_wp2_with (first | ((with_reducible refine gate_dst (N := 6) rfl ?_); refine Kd.R_lit Kd.string _ 9 ?hg (N := 6) ?hd (xs := ([] : List ByteArray)) (inner := []) (ok := fun _ => True) (okp := fun _ => True) ?hr ?hp (fun _ hk => hk) trivial (Below.refl _ _) (Nat.le_refl _) (by simp) ?_; (case hd => rfl); (case hg => rfl); (case hr => first | (go_simp; done) | (go_simp; rfl)); (case hp => exact (Reps.none _ _)); intro v943 w3 ho4 hb hg_ hnew_; clear hg_ hnew_; (first | rw [← Ny942.out] at ho4 | (simp only [Int.reduceToNat] at ho4; rw [← Ny942.out] at ho4)); have HO944 := Aside0.mk (Kd.R_lower ho4 (below_size hb_)); replace HB := Aside0.mk (below_step hb_ hb); clear hb ho4))
  go_ret2
  exact ⟨_, er_, by refine kR_ ?_; exact HO944.out, hb_⟩
 ·rw [if_neg c2] at H
  have c2b0 : (a0.toList == ([47] : List UInt8)) = false := beq_eq_false_iff_ne.mpr c2
  have c2b1 : (a0.toList != ([47] : List UInt8)) = true := bne_iff_ne.mpr c2
  have H' := Aside0.mk H
  clear H
  go_enter Try.func104, Try.ntmps104
  go_wp2_with (first | ((with_reducible refine gate_dst (N := 6) rfl ?_); refine Kd.R_lit Kd.string _ 9 ?hg (N := 6) ?hd (xs := ([] : List ByteArray)) (inner := []) (ok := fun _ => True) (okp := fun _ => True) ?hr ?hp (fun _ hk => hk) trivial (Below.refl _ _) (Nat.le_refl _) (by simp) ?_; (case hd => rfl); (case hg => rfl); (case hr => first | (go_simp; done) | (go_simp; rfl)); (case hp => exact (Reps.none _ _)); intro v943 w5 ho6 hb hg_ hnew_; clear hg_ hnew_; (first | rw [← Ny942.out] at ho6 | (simp only [Int.reduceToNat] at ho6; rw [← Ny942.out] at ho6)); have HO944 := Aside0.mk (Kd.R_lower ho6 (below_size hb_)); replace HB := Aside0.mk (below_step hb_ hb); clear hb ho6))
  go_loopg [4, 5] k (fun kq v4 v5 w' => ∃ (x4_1 : List ByteArray) (x5_1 : Int), v5 = .int .i64 x5_1 ∧ Aside0 (spec_PathParts.l0 kq a0 x4_1 x5_1 = some (r1, r2)) ∧ Aside0 (kq ≤ k) ∧ Aside0 (Kd.R Kd.string 9 w' w.heap.size (fun _ => True) v4 x4_1) ∧ Aside0 (Below w.heap.size w w'))
  case atStart => exact ⟨(y942), (0), rs_, H', ⟨Nat.le_refl _⟩, ⟨by refine kR_ ?_; exact HO944.out⟩, ⟨hb_⟩⟩
  case round =>
   clear H'
   try clear c1
   try clear c2
   try clear c2b0
   try clear c2b1
   try clear p2
   obtain ⟨x4_1, x5_1, rfl, HA, HK1, HO_4, HB⟩ := hrel
   cases gk with
   | zero => exact absurd HA.out (by simp [spec_PathParts.l0])
   | succ k1 =>
    have H := HA.out
    clear HA
    simp only [spec_PathParts.l0] at H
    by_cases c7 : x5_1 < (a0.size : Int)
    ·rw [if_pos c7] at H
     have c7b0 : decide (x5_1 < (a0.size : Int)) = true := decide_eq_true c7
     clear c7
     by_cases c8 : 0 ≤ x5_1; rotate_left
     ·rw [if_neg c8] at H; exact absurd H (by simp)
     rw [if_pos c8] at H
     have c8b0 : decide (0 ≤ x5_1) = true := decide_eq_true c8
     clear c8
     by_cases c10 : (bt a0 x5_1) = 47
     ·rw [if_pos c10] at H
      have c10b0 : ((bt a0 x5_1) == 47) = true := beq_iff_eq.mpr c10
      have c10b1 : ((bt a0 x5_1) != 47) = false := bne_eq_false_iff_eq.mpr c10
      clear c10
      by_cases c11 : x4_1.length < 8796093022208; rotate_left
      ·rw [if_neg c11] at H; exact absurd H (by simp)
      rw [if_pos c11] at H
      have LMc11 := Aside0.mk c11
      clear c11
      obtain ⟨y945, hy945⟩ : ∃ y_ : List ByteArray, y_ = (x4_1 ++ [(⟨#[]⟩ : ByteArray)]) := ⟨_, rfl⟩
      replace H : (spec_PathParts.l0 k1 a0 y945 (wrap64 (x5_1 + 1))) = some (r1, r2) := hq_ hy945 H
      have Ny945 := Aside0.mk hy945
      clear hy945
      have H' := Aside0.mk H
      clear H
      have p9 : 0 ≤ (x5_1 : Int) := dt_
      have q9 : x5_1 < (a0.size : Int) := dt_
      have hx9 := bt_at a0 x5_1
      replace p9 := eq_true p9
      replace q9 := eq_true q9
      go_wp2_with (first | ((with_reducible refine gate_builtin (b := .append) (xs := #[.tmp 20, .tmp 21]) rfl ?_); at_builtin; refine Kd.R_append Kd.string (w0 := w) w.heap.size rfl (.tmp 20) (.tmp 21) 29 9 (.string ⟨#[]⟩) 16 rfl Try.underlying29 info9 rfl (by decide) (by omega) u4 x4_1 (⟨#[]⟩ : ByteArray) [.string (⟨#[]⟩ : ByteArray)] (fun _ => True) (fun _ => False) rfl rfl ?aP (fun _ hk => hk.elim) ?aF ?aO ?aB ?aS ?aL ?_; (case aP => exact rfl); (case aB => exact hb_); (case aF => exact (fun _ _ => trivial)); (case aO => exact (kR_ HO_4.out)); (case aS => exact (below_size hb_)); (case aL => have := LMc11.out; omega); intro v946 w12 ho hb hg hat; rw [← Ny945.out] at ho; have n0_ := Aside0.mk (hb); have n1_ := Aside0.mk (ho); clear HB; clear HO_4; have HB := n0_; have HO947 := n1_; clear n0_ n1_; clear ho hb hg hat))
      go_roundg k1
      case measure => have := HK1.out; omega
      case rel => exact ⟨(y945), (wrap64 (x5_1 + 1)), rs_, H', ⟨by have := HK1.out; omega⟩, ⟨by refine kR_ ?_; exact HO947.out⟩, ⟨hb_⟩⟩
     ·rw [if_neg c10] at H
      have c10b0 : ((bt a0 x5_1) == 47) = false := beq_eq_false_iff_ne.mpr c10
      have c10b1 : ((bt a0 x5_1) != 47) = true := bne_iff_ne.mpr c10
      by_cases c13 : (x4_1.length : Int) > 0
      ·rw [if_pos c13] at H
       have c13b0 : decide (0 < (x4_1.length : Int)) = true := decide_eq_true c13
       have c13b1 : decide (0 < x4_1.length) = true := decide_eq_true (by omega)
       clear c13
       obtain ⟨ji14, hji14⟩ : ∃ j_ : Int, (wrap64 ((x4_1.length : Int) - 1)) = j_ := ⟨_, rfl⟩
       replace H : (if 0 ≤ (ji14) then (if (ji14) < (x4_1.length : Int) then (if x5_1 ≤ (wrap64 (x5_1 + 1)) then (if (wrap64 (x5_1 + 1)) ≤ (a0.size : Int) then (if (rdOf ByteArray.empty x4_1 (ji14)).size + (a0.extract (x5_1 : Int).toNat ((wrap64 (x5_1 + 1)) : Int).toNat).size ≤ 9223372036854775807 then (spec_PathParts.l0 k1 a0 (x4_1.set ((ji14) : Int).toNat ((rdOf ByteArray.empty x4_1 (ji14)) ++ (a0.extract (x5_1 : Int).toNat ((wrap64 (x5_1 + 1)) : Int).toNat))) (wrap64 (x5_1 + 1))) else (none)) else (none)) else (none)) else (none)) else (none)) = some (r1, r2) := by first | (rw [hji14] at H; exact H) | (simp only [hji14] at H ⊢; exact H)
       have hji14w : (IntKind.i64.wrap ((x4_1.length : Int) - 1)) = ji14 := (i64_w _).trans hji14
       by_cases c15 : 0 ≤ (ji14); rotate_left
       ·rw [if_neg c15] at H; exact absurd H (by simp)
       rw [if_pos c15] at H
       have c15b0 : decide (0 ≤ (ji14)) = true := decide_eq_true c15
       clear c15
       by_cases c16 : (ji14) < (x4_1.length : Int); rotate_left
       ·rw [if_neg c16] at H; exact absurd H (by simp)
       rw [if_pos c16] at H
       have c16b0 : decide ((ji14) < (x4_1.length : Int)) = true := decide_eq_true c16
       clear c16
       have c17b0 := eq_true (dt_ : 0 ≤ x5_1)
       by_cases c18 : x5_1 ≤ (wrap64 (x5_1 + 1)); rotate_left
       ·rw [if_neg c18] at H; exact absurd H (by simp)
       rw [if_pos c18] at H
       have c18b0 := eq_true c18
       have c18b1 : decide (x5_1 ≤ (wrap64 (x5_1 + 1))) = true := decide_eq_true c18
       by_cases c19 : (wrap64 (x5_1 + 1)) ≤ (a0.size : Int); rotate_left
       ·rw [if_neg c19] at H; exact absurd H (by simp)
       rw [if_pos c19] at H
       have c19b0 := eq_true c19
       have c19b1 : decide ((wrap64 (x5_1 + 1)) ≤ (a0.size : Int)) = true := decide_eq_true c19
       by_cases c20 : (rdOf ByteArray.empty x4_1 (ji14)).size + (a0.extract (x5_1 : Int).toNat ((wrap64 (x5_1 + 1)) : Int).toNat).size ≤ 9223372036854775807; rotate_left
       ·rw [if_neg c20] at H; exact absurd H (by simp)
       rw [if_pos c20] at H
       have c20b0 := eq_true c20
       have c20b1 : decide ((rdOf ByteArray.empty x4_1 (ji14)).size + (a0.extract (x5_1 : Int).toNat ((wrap64 (x5_1 + 1)) : Int).toNat).size ≤ 9223372036854775807) = true := decide_eq_true c20
       try have c20b2 : (9223372036854775807 < (rdOf ByteArray.empty x4_1 (ji14)).size + (a0.extract (x5_1 : Int).toNat ((wrap64 (x5_1 + 1)) : Int).toNat).size) = False := eq_false (Nat.not_lt.2 c20)
       try have c20b5 : ((rdOf ByteArray.empty x4_1 (ji14)).size + ((((wrap64 (x5_1 + 1)) : Int).toNat - (x5_1 : Int).toNat)) ≤ 9223372036854775807) = True := eq_true (by first | exact c20 | exact (by have h_ := c20; simp only [ByteArray.size_append, ByteArray.size_extract] at h_ ⊢; omega))
       try have c20b6 : decide ((rdOf ByteArray.empty x4_1 (ji14)).size + ((((wrap64 (x5_1 + 1)) : Int).toNat - (x5_1 : Int).toNat)) ≤ 9223372036854775807) = true := decide_eq_true (of_eq_true c20b5)
       try have c20b7 : (9223372036854775807 < (rdOf ByteArray.empty x4_1 (ji14)).size + ((((wrap64 (x5_1 + 1)) : Int).toNat - (x5_1 : Int).toNat))) = False := eq_false (Nat.not_lt.2 (of_eq_true c20b5))
       obtain ⟨y949, hy949⟩ : ∃ y_ : List ByteArray, y_ = (x4_1.set ((ji14) : Int).toNat ((rdOf ByteArray.empty x4_1 (ji14)) ++ (a0.extract (x5_1 : Int).toNat ((wrap64 (x5_1 + 1)) : Int).toNat))) := ⟨_, rfl⟩
       replace H : (spec_PathParts.l0 k1 a0 y949 (wrap64 (x5_1 + 1))) = some (r1, r2) := hq_ hy949 H
       have Ny949 := Aside0.mk hy949
       clear hy949
       have H' := Aside0.mk H
       clear H
       have p9 : 0 ≤ (x5_1 : Int) := dt_
       have q9 : x5_1 < (a0.size : Int) := dt_
       have hx9 := bt_at a0 x5_1
       replace p9 := eq_true p9
       replace q9 := eq_true q9
       obtain ⟨Ao22, co22, eo22⟩ := Kd.R_slice HO_4.out
       subst eo22
       try go_wp2
       replace HO_4 := Aside0.mk (Kd.R_drew HO_4.out)
       replace HB := Aside0.mk (below_drew1 HB.out)
       have p948 : 0 ≤ ((ji14) : Int) := dt_
       have q948 : (ji14) < (x4_1.length : Int) := dt_
       obtain ⟨ad948, e948, hx948_0⟩ := Kd.at_string (Kd.R_reads' HO_4.out).2.2 (ji14) p948 q948
       cases e948
       replace p948 := eq_true p948
       replace q948 := eq_true q948
       have p21 : 0 ≤ ((ji14) : Int) := dt_
       have q21 : ((ji14) : Int) < ((x4_1.length : Int) : Int) := dt_
       obtain ⟨go21, co21, eo21, gb21, gl21, cl21, HG21⟩ := Kd.R_form HO_4.out (by omega)
       (first | cases eo21 | (injection eo21 with ea_ en_ ec_; (first | subst ea_ | (injection ea_ with ea_; subst ea_)); subst ec_; clear en_))
       have GB21 := Aside0.mk gb21
       have GG21 := Aside0.mk HG21
       clear gb21 gl21 HG21
       (first | simp only [add_plain] at hx948_0 | skip)
       obtain ⟨hx21_0, hf21_0⟩ := Kd.R_celln (⟨#[]⟩ : ByteArray) HO_4.out ((ji14) : Int) p21 q21
       replace p21 := eq_true p21
       replace q21 := eq_true q21
       have HP24 := Kd.R_putn HO_4.out ((ji14) : Int) ((rdOf ByteArray.empty x4_1 (ji14)) ++ (a0.extract (x5_1 : Int).toNat ((wrap64 (x5_1 + 1)) : Int).toNat))
       rw [← Ny949.out] at HP24
       have HQ24 := Aside0.mk HP24
       clear HP24
       refine start_ (n := 18) (S := fun w' => w'.cell? ⟨go21, ((ji14)).toNat, none⟩ = some (.string (rdOf ByteArray.empty x4_1 (ji14)))) (ds := [17]) (tf_ 0 18) (by kernel_rfl) rfl rfl (hx948_0) (fun hHeld => ?_); refine with_tabW spec_PathParts.tab10 spec_PathParts.bits10 (fun HT_ HW_ => ?_)
       generalize wr.drew = w23 at HO_4 HB GG21 HQ24 hf21_0 hx21_0 hx948_0 hHeld ⊢
       refine paA_ 0 26 1 17 ?_
       refine paA_ 1 27 2 16 ?_
       refine paA_ 2 28 3 15 ?_
       refine paA_ 3 29 4 14 ?_
       refine paA_ 4 30 5 13 ?_
       refine paA_ 5 31 6 12 ?_
       refine paA_ 6 32 7 11 ?_
       refine paA_ 7 33 8 10 ?_
       refine paA_ 8 34 9 9 ?_
       refine pa_ (i := 10) (N := some 36) (tb_ 18 1535) ?_
       refine pa_ (i := 11) (N := some 37) (tb_ 18 3583) ?_
       refine pa_ (i := 12) (N := some 38) (tb_ 18 7679) ?_
       refine pa_ (i := 13) (N := some 39) (tb_ 18 15871) ?_
       refine pa_ (i := 14) (N := some 40) (tb_ 18 32255) ?_
       refine take_ (i := 9) (N := some 35) (v := ?_) (a' := ?_) (tf_ 15 3) rfl rfl (take_ofW HT_.out HW_.out (by kernel_rfl)) (fun _ _ _ h => h) (Or.inl ⟨by rfl, ?_⟩) hHeld ?_ ?_
       rotate_left
       ·intro w' s0
        go_simp
        with_reducible rfl
       rotate_left
       ·simp only [Act.put, List.setIfInBounds_toArray, List.set_cons_zero, List.set_cons_succ, i64_w, i32_w]
        rfl
       refine paA_ 15 41 16 2 ?_
       refine paA_ 16 42 17 1 ?_
       refine last_ (i := 17) (N := none) (tf_ 18 0) rfl rfl (one_of HT_.out (by kernel_rfl)) (by decide) (fun K hK => ?_)
       refine skip_ (w1 := ?_) (by rfl) rfl ?_ ?_
       rotate_left
       ·go_simp
        rfl
       refine hK.out _ _ ?_
       clear hK K
       refine done_ (done_of HT_.out (by kernel_rfl)) ?_
       try go_wp2
       go_roundg k1
       case measure => have := HK1.out; omega
       case rel => exact ⟨(y949), (wrap64 (x5_1 + 1)), rs_, H', ⟨by have := HK1.out; omega⟩, ⟨by refine kR_ ?_; exact HQ24.out⟩, ⟨by repeat (first | (with_reducible first | exact HB.out | apply below_alloc | apply pw_below_drewN | apply below_drew1 | refine below_set ?_ GB21.out) | exact HB.out)⟩⟩
      ·rw [if_neg c13] at H
       have c13b0 : decide (0 < (x4_1.length : Int)) = false := decide_eq_false c13
       have c13b1 : decide (0 < x4_1.length) = false := decide_eq_false (by omega)
       clear c13
       have H' := Aside0.mk H
       clear H
       have p9 : 0 ≤ (x5_1 : Int) := dt_
       have q9 : x5_1 < (a0.size : Int) := dt_
       have hx9 := bt_at a0 x5_1
       replace p9 := eq_true p9
       replace q9 := eq_true q9
       obtain ⟨Ao25, co25, eo25⟩ := Kd.R_slice HO_4.out
       subst eo25
       go_wp2
       go_roundg k1
       case measure => have := HK1.out; omega
       case rel => exact ⟨(x4_1), (wrap64 (x5_1 + 1)), rs_, H', ⟨by have := HK1.out; omega⟩, ⟨by refine kR_ ?_; exact HO_4.out⟩, ⟨hb_⟩⟩
    ·rw [if_neg c7] at H
     have c7b0 : decide (x5_1 < (a0.size : Int)) = false := decide_eq_false c7
     clear c7
     by_cases c26 : a0.toList = ([] : List UInt8)
     ·rw [if_pos c26] at H
      have c26b0 : (a0.toList == ([] : List UInt8)) = true := beq_iff_eq.mpr c26
      have c26b1 : (a0.toList != ([] : List UInt8)) = false := bne_eq_false_iff_eq.mpr c26
      clear c26
      obtain ⟨y950, hy950⟩ : ∃ y_ : List ByteArray, y_ = (([] : List ByteArray)) := ⟨_, rfl⟩
      replace H : (some (y950, false)) = some (r1, r2) := hq_ hy950 H
      have Ny950 := Aside0.mk hy950
      clear hy950
      simp only [Option.some.injEq, Prod.mk.injEq] at H
      obtain ⟨rfl, rfl⟩ := H
      go_wp2_with (first | ((with_reducible refine gate_dst (N := 51) rfl ?_); refine Kd.R_lit Kd.string _ 9 ?hg (N := 51) ?hd (xs := ([] : List ByteArray)) (inner := []) (ok := fun _ => True) (okp := fun _ => True) ?hr ?hp (fun _ hk => hk) trivial (Below.refl _ _) (Nat.le_refl _) (by simp) ?_; (case hd => rfl); (case hg => rfl); (case hr => first | (go_simp; done) | (go_simp; rfl)); (case hp => exact (Reps.none _ _)); intro v951 w27 ho28 hb hg_ hnew_; clear hg_ hnew_; (first | rw [← Ny950.out] at ho28 | (simp only [Int.reduceToNat] at ho28; rw [← Ny950.out] at ho28)); have HO952 := Aside0.mk (Kd.R_lower (Kd.R_new' ho28 (Kd.R_lt (kR_ HO_4.out))) (below_size hb_)); replace HO_4 := Aside0.mk (Kd.R_elder' (kR_ HO_4.out) (Kd.R_base ho28) hb); replace HB := Aside0.mk (below_step hb_ hb); clear hb ho28))
      go_ret2
      exact ⟨_, er_, by refine kR_ ?_; exact Kd.R_mono HO952.out (fun _ hk => trivial), hb_⟩
     ·rw [if_neg c26] at H
      have c26b0 : (a0.toList == ([] : List UInt8)) = false := beq_eq_false_iff_ne.mpr c26
      have c26b1 : (a0.toList != ([] : List UInt8)) = true := bne_iff_ne.mpr c26
      replace H := Option.bind_eq_some_iff.mp H
      obtain ⟨t953, A290, H⟩ := H
      replace H : (if t953.toList = a0.toList then (some (x4_1, true)) else (some ((([] : List ByteArray)), false))) = some (r1, r2) := H
      have A29 := Aside0.mk A290
      clear A290
      by_cases c30 : t953.toList = a0.toList
      ·rw [if_pos c30] at H
       have c30b0 : (t953.toList == a0.toList) = true := beq_iff_eq.mpr c30
       have c30b1 : (t953.toList != a0.toList) = false := bne_eq_false_iff_eq.mpr c30
       clear c30
       simp only [Option.some.injEq, Prod.mk.injEq] at H
       obtain ⟨rfl, rfl⟩ := H
       obtain ⟨Ao31, co31, eo31⟩ := Kd.R_slice HO_4.out
       subst eo31
       go_wp2_with (first | (go_at_call 113; (with_reducible refine (spec_JoinPath.calls k1 _ _ x4_1 t953 _ ?side1 ?side2 A29.out).mono ?_); (case side1 => exact kC_ ((Kd.R_reads' HO_4.out).2.2)); (case side2 => exact (Kd.R_reads' HO_4.out).2.1); rintro e w' ⟨rfl, ⟨nd, rfl⟩⟩))
       go_ret2
       exact ⟨_, er_, by refine kR_ ?_; exact HO_4.out, hb_⟩
      ·rw [if_neg c30] at H
       have c30b0 : (t953.toList == a0.toList) = false := beq_eq_false_iff_ne.mpr c30
       have c30b1 : (t953.toList != a0.toList) = true := bne_iff_ne.mpr c30
       obtain ⟨y954, hy954⟩ : ∃ y_ : List ByteArray, y_ = (([] : List ByteArray)) := ⟨_, rfl⟩
       replace H : (some (y954, false)) = some (r1, r2) := hq_ hy954 H
       have Ny954 := Aside0.mk hy954
       clear hy954
       simp only [Option.some.injEq, Prod.mk.injEq] at H
       obtain ⟨rfl, rfl⟩ := H
       obtain ⟨Ao32, co32, eo32⟩ := Kd.R_slice HO_4.out
       subst eo32
       go_wp2_with (first | (go_at_call 113; (with_reducible refine (spec_JoinPath.calls k1 _ _ x4_1 t953 _ ?side1 ?side2 A29.out).mono ?_); (case side1 => exact kC_ ((Kd.R_reads' HO_4.out).2.2)); (case side2 => exact (Kd.R_reads' HO_4.out).2.1); rintro e w' ⟨rfl, ⟨nd, rfl⟩⟩) | ((with_reducible refine gate_dst (N := 51) rfl ?_); refine Kd.R_lit Kd.string _ 9 ?hg (N := 51) ?hd (xs := ([] : List ByteArray)) (inner := []) (ok := fun _ => True) (okp := fun _ => True) ?hr ?hp (fun _ hk => hk) trivial (Below.refl _ _) (Nat.le_refl _) (by simp) ?_; (case hd => rfl); (case hg => rfl); (case hr => first | (go_simp; done) | (go_simp; rfl)); (case hp => exact (Reps.none _ _)); intro v955 w33 ho34 hb hg_ hnew_; clear hg_ hnew_; (first | rw [← Ny954.out] at ho34 | (simp only [Int.reduceToNat] at ho34; rw [← Ny954.out] at ho34)); have HO956 := Aside0.mk (Kd.R_lower (Kd.R_new' ho34 (Kd.R_lt (kR_ HO_4.out))) (below_size hb_)); replace HO_4 := Aside0.mk (Kd.R_elder' (kR_ HO_4.out) (Kd.R_base ho34) hb); replace HB := Aside0.mk (below_step hb_ hb); clear hb ho34))
       go_ret2
       exact ⟨_, er_, by refine kR_ ?_; exact Kd.R_mono HO956.out (fun _ hk => trivial), hb_⟩
/-! ### spec_l4Get: function 108 -/
def spec_l4Get.l0 : Nat → List (S65) → Int → Int → Option (ByteArray × Bool)
 | 0, _, _, _ => none
 | k + 1, x0, x1, x6 => if x6 < (x0.length : Int) then (if 0 ≤ x6 then (if ((rd_T65 x0 x6).f0) = x1 then (some ((rd_T65 x0 x6).f1, true)) else (spec_l4Get.l0 k x0 x1 (wrap64 (x6 + 1)))) else (none)) else (some ((⟨#[]⟩ : ByteArray), false))
def spec_l4Get.f (k : Nat) (l0 : List (S65)) (a1 : Int) : Option (ByteArray × Bool) := spec_l4Get.l0 k l0 a1 0
set_option maxHeartbeats 8000000 in
set_option maxRecDepth 100000 in
theorem spec_l4Get.calls (k : Nat) (A0 : Option Addr) (c0 : Nat) (l0 : List (S65)) (a1 : Int) (r1 : ByteArray) (r2 : Bool) (w : World) (hr0 : Kd.C k65 w A0 l0.length l0) (hc0 : l0.length ≤ c0) (h : spec_l4Get.f k l0 a1 = some (r1, r2)) :
  Calls Try.prog 108 #[.slice A0 l0.length c0, .int .i64 a1] w fun e w' => e = .returned (.tuple #[.string r1, .bool r2]) ∧ Drawn0 w w' := by
 have HR0 := Aside0.mk hr0
 have HC0 := Aside0.mk hc0
 clear hr0 hc0
 have H : (spec_l4Get.l0 k l0 a1 0) = some (r1, r2) := h
 clear h
 have H' := Aside0.mk H
 clear H
 go_enter Try.func108, Try.ntmps108
 go_wp2
 go_loopg [6] k (fun kq v6 w' => ∃ (x6_1 : Int), v6 = .int .i64 x6_1 ∧ Aside0 (spec_l4Get.l0 kq l0 a1 x6_1 = some (r1, r2)) ∧ Aside0 (kq ≤ k) ∧ Drawn0 w w')
 case atStart => exact ⟨(0), rs_, H', ⟨Nat.le_refl _⟩, dw_⟩
 case round =>
  clear H'
  try clear c1
  try clear p2
  obtain ⟨x6_1, rfl, HA, HK1, ⟨m1, rfl⟩⟩ := hrel
  cases gk with
  | zero => exact absurd HA.out (by simp [spec_l4Get.l0])
  | succ k1 =>
   have H := HA.out
   clear HA
   simp only [spec_l4Get.l0] at H
   by_cases c3 : x6_1 < (l0.length : Int)
   ·rw [if_pos c3] at H
    have c3b0 : decide (x6_1 < (l0.length : Int)) = true := decide_eq_true c3
    clear c3
    by_cases c4 : 0 ≤ x6_1; rotate_left
    ·rw [if_neg c4] at H; exact absurd H (by simp)
    rw [if_pos c4] at H
    have c4b0 : decide (0 ≤ x6_1) = true := decide_eq_true c4
    clear c4
    by_cases c5 : ((rd_T65 l0 x6_1).f0) = a1
    ·rw [if_pos c5] at H
     have c5b0 : (((rd_T65 l0 x6_1).f0) == a1) = true := beq_iff_eq.mpr c5
     have c5b1 : (((rd_T65 l0 x6_1).f0) != a1) = false := bne_eq_false_iff_eq.mpr c5
     clear c5
     simp only [Option.some.injEq, Prod.mk.injEq] at H
     obtain ⟨rfl, rfl⟩ := H
     have p957 : 0 ≤ (x6_1 : Int) := dt_
     have q957 : x6_1 < (l0.length : Int) := dt_
     obtain ⟨ad957, e957, hx957_0, hx957_1⟩ := at_T65 HR0.out x6_1 p957 q957
     cases e957
     replace p957 := eq_true p957
     replace q957 := eq_true q957
     have p958 : 0 ≤ (x6_1 : Int) := dt_
     have q958 : x6_1 < (l0.length : Int) := dt_
     obtain ⟨ad958, e958, hx958_0, hx958_1⟩ := at_T65 HR0.out x6_1 p958 q958
     obtain rfl : ad957 = ad958 := (by injection e958)
     replace p958 := eq_true p958
     replace q958 := eq_true q958
     go_wp2
     go_ret2
     exact ⟨rs_, dw_⟩
    ·rw [if_neg c5] at H
     have c5b0 : (((rd_T65 l0 x6_1).f0) == a1) = false := beq_eq_false_iff_ne.mpr c5
     have c5b1 : (((rd_T65 l0 x6_1).f0) != a1) = true := bne_iff_ne.mpr c5
     have H' := Aside0.mk H
     clear H
     have p957 : 0 ≤ (x6_1 : Int) := dt_
     have q957 : x6_1 < (l0.length : Int) := dt_
     obtain ⟨ad957, e957, hx957_0, hx957_1⟩ := at_T65 HR0.out x6_1 p957 q957
     cases e957
     replace p957 := eq_true p957
     replace q957 := eq_true q957
     go_wp2
     go_roundg k1
     case measure => have := HK1.out; omega
     case rel => exact ⟨(wrap64 (x6_1 + 1)), rs_, H', ⟨by have := HK1.out; omega⟩, dw_⟩
   ·rw [if_neg c3] at H
    have c3b0 : decide (x6_1 < (l0.length : Int)) = false := decide_eq_false c3
    clear c3
    simp only [Option.some.injEq, Prod.mk.injEq] at H
    obtain ⟨rfl, rfl⟩ := H
    go_wp2
    go_ret2
    exact ⟨rs_, dw_⟩
/-! ### spec_ReadHex: function 118 -/
mutual
def spec_ReadHex.l0 : Nat → ByteArray → Int → Int → Option (Int)
 | 0, _, _, _ => none
 | k + 1, x0, x3, x4 => if x4 < (x0.size : Int) then (spec_ReadHex.j1 k x0 x3 x4 (decide (x4 < 7))) else (spec_ReadHex.j1 k x0 x3 x4 false)
def spec_ReadHex.j1 : Nat → ByteArray → Int → Int → Bool → Option (Int)
 | 0, _, _, _, _ => none
 | k + 1, x0, x3, x4, x12 => if x12 = true then (if 0 ≤ x4 then (if x4 < (x0.size : Int) then (if (bt x0 x4) ≥ 48 then (spec_ReadHex.j2 k x0 x3 x4 (decide ((bt x0 x4) ≤ 57))) else (spec_ReadHex.j2 k x0 x3 x4 false)) else (none)) else (none)) else (if x0.toList = ([] : List UInt8) then (some (-1)) else ((spec_HexText.f k x3).bind fun t959 => (if t959.toList = x0.toList then (some x3) else (some (-1)))))
def spec_ReadHex.j2 : Nat → ByteArray → Int → Int → Bool → Option (Int)
 | 0, _, _, _, _ => none
 | k + 1, x0, x3, x4, x15 => if x15 = true then (if 0 ≤ x4 then (if x4 < (x0.size : Int) then (spec_ReadHex.l0 k x0 (wrap64 ((wrap64 (16 * x3)) + (((bt x0 x4) - 48) % 256))) (wrap64 (x4 + 1))) else (none)) else (none)) else (if 0 ≤ x4 then (if x4 < (x0.size : Int) then (if (bt x0 x4) ≥ 97 then (if (bt x0 x4) ≤ 102 then (spec_ReadHex.l0 k x0 (wrap64 ((wrap64 ((wrap64 (16 * x3)) + (((bt x0 x4) - 97) % 256))) + 10)) (wrap64 (x4 + 1))) else (some (-1))) else (some (-1))) else (none)) else (none))
end
def spec_ReadHex.f (k : Nat) (a0 : ByteArray) : Option (Int) := spec_ReadHex.l0 k a0 0 0
set_option maxHeartbeats 8000000 in
set_option maxRecDepth 100000 in
theorem spec_ReadHex.calls (k : Nat) (a0 : ByteArray) (r : Int) (w : World) (h : spec_ReadHex.f k a0 = some r) :
  Calls Try.prog 118 #[.string a0] w fun e w' => e = .returned (.int .i64 r) ∧ Drawn0 w w' := by
 have H : (spec_ReadHex.l0 k a0 0 0) = some r := h
 clear h
 have H' := Aside0.mk H
 clear H
 go_enter Try.func118, Try.ntmps118
 go_wp2
 go_loopg [3, 4] k (fun kq v3 v4 w' => ∃ (x3_1 : Int) (x4_1 : Int), v3 = .int .i64 x3_1 ∧ v4 = .int .i64 x4_1 ∧ Aside0 (spec_ReadHex.l0 kq a0 x3_1 x4_1 = some r) ∧ Aside0 (kq ≤ k) ∧ Drawn0 w w')
 case atStart => exact ⟨(0), (0), rs_, rs_, H', ⟨Nat.le_refl _⟩, dw_⟩
 case round =>
  clear H'
  try clear c1
  obtain ⟨x3_1, x4_1, rfl, rfl, HA, HK1, ⟨m1, rfl⟩⟩ := hrel
  cases gk with
  | zero => exact absurd HA.out (by simp [spec_ReadHex.l0])
  | succ k1 =>
   have H := HA.out
   clear HA
   simp only [spec_ReadHex.l0] at H
   have HC2 := Aside0.mk H
   clear H
   go_upto_region 3 with (fail)
   go_cut [12] (fun v12 wc => ∃ (kq : Nat) (x12_1 : Bool), v12 = .bool x12_1 ∧ Aside0 (spec_ReadHex.j1 kq a0 x3_1 x4_1 x12_1 = some r) ∧ Aside0 (kq ≤ k1) ∧ Drawn0 w wc)
   case first =>
    have H := HC2.out
    clear HC2
    by_cases c3 : x4_1 < (a0.size : Int)
    ·rw [if_pos c3] at H
     have c3b0 : decide (x4_1 < (a0.size : Int)) = true := decide_eq_true c3
     clear c3
     (first | rw [c3b0] | (simp only [i64_w, i32_w]; rw [c3b0]) | skip)
     have H' := Aside0.mk H
     clear H
     go_wp2
     go_meet
     case rel => exact ⟨_, (decide (x4_1 < 7)), rs_, H', ⟨by have := HK1.out; first | omega | exact Nat.le_refl _⟩, dw_⟩
    ·rw [if_neg c3] at H
     have c3b0 : decide (x4_1 < (a0.size : Int)) = false := decide_eq_false c3
     clear c3
     (first | rw [c3b0] | (simp only [i64_w, i32_w]; rw [c3b0]) | skip)
     have H' := Aside0.mk H
     clear H
     go_wp2
     go_meet
     case rel => exact ⟨_, (false), rs_, H', ⟨by have := HK1.out; first | omega | exact Nat.le_refl _⟩, dw_⟩
   case rest =>
    clear HC2
    try clear c1
    try clear p2
    try clear c3
    try clear c3b0
    obtain ⟨kq, x12_1, rfl, HA, HJ1, ⟨mc1, rfl⟩⟩ := hcut
    cases kq with
    | zero => exact absurd HA.out (by simp [spec_ReadHex.j1])
    | succ kj1 =>
     have H := HA.out
     clear HA
     simp only [spec_ReadHex.j1] at H
     by_cases c4 : x12_1 = true
     ·subst c4
      have H1 : (if 0 ≤ x4_1 then (if x4_1 < (a0.size : Int) then (if (bt a0 x4_1) ≥ 48 then (spec_ReadHex.j2 kj1 a0 x3_1 x4_1 (decide ((bt a0 x4_1) ≤ 57))) else (spec_ReadHex.j2 kj1 a0 x3_1 x4_1 false)) else (none)) else (none)) = some r := by rw [if_pos rfl] at H; exact H
      clear H
      have H := H1
      clear H1
      have HC5 := Aside0.mk H
      clear H
      go_upto_region 6 with (fail)
      go_cut [15] (fun v15 wc => ∃ (kq : Nat) (x15_4 : Bool), v15 = .bool x15_4 ∧ Aside0 (spec_ReadHex.j2 kq a0 x3_1 x4_1 x15_4 = some r) ∧ Aside0 (kq ≤ kj1) ∧ Drawn0 w wc)
      case first =>
       have H := HC5.out
       clear HC5
       by_cases c6 : 0 ≤ x4_1; rotate_left
       ·rw [if_neg c6] at H; exact absurd H (by simp)
       rw [if_pos c6] at H
       have c6b0 : decide (0 ≤ x4_1) = true := decide_eq_true c6
       clear c6
       (first | rw [c6b0] | (simp only [i64_w, i32_w]; rw [c6b0]) | skip)
       by_cases c7 : x4_1 < (a0.size : Int); rotate_left
       ·rw [if_neg c7] at H; exact absurd H (by simp)
       rw [if_pos c7] at H
       have c7b0 : decide (x4_1 < (a0.size : Int)) = true := decide_eq_true c7
       clear c7
       by_cases c9 : (bt a0 x4_1) ≥ 48
       ·rw [if_pos c9] at H
        have c9b0 : decide (48 ≤ (bt a0 x4_1)) = true := decide_eq_true c9
        clear c9
        have H' := Aside0.mk H
        clear H
        have p8 : 0 ≤ (x4_1 : Int) := dt_
        have q8 : x4_1 < (a0.size : Int) := dt_
        have hx8 := bt_at a0 x4_1
        replace p8 := eq_true p8
        replace q8 := eq_true q8
        have p10 : 0 ≤ (x4_1 : Int) := dt_
        have q10 : x4_1 < (a0.size : Int) := dt_
        have hx10 := bt_at a0 x4_1
        replace p10 := eq_true p10
        replace q10 := eq_true q10
        go_wp2
        go_meet
        case rel => exact ⟨_, (decide ((bt a0 x4_1) ≤ 57)), rs_, H', ⟨by have := HK1.out; have := HJ1.out; first | omega | exact Nat.le_refl _⟩, dw_⟩
       ·rw [if_neg c9] at H
        have c9b0 : decide (48 ≤ (bt a0 x4_1)) = false := decide_eq_false c9
        clear c9
        have H' := Aside0.mk H
        clear H
        have p8 : 0 ≤ (x4_1 : Int) := dt_
        have q8 : x4_1 < (a0.size : Int) := dt_
        have hx8 := bt_at a0 x4_1
        replace p8 := eq_true p8
        replace q8 := eq_true q8
        go_wp2
        go_meet
        case rel => exact ⟨_, (false), rs_, H', ⟨by have := HK1.out; have := HJ1.out; first | omega | exact Nat.le_refl _⟩, dw_⟩
      case rest =>
       clear HC5
       try clear c1
       try clear p1
       try clear q1
       try clear hx1
       try clear p2
       try clear c3
       try clear c3b0
       try clear c4
       try clear c6
       try clear c6b0
       try clear c7
       try clear c7b0
       try clear p8
       try clear q8
       try clear hx8
       try clear c9
       try clear c9b0
       try clear p10
       try clear q10
       try clear hx10
       try clear p10
       try clear p2
       try clear p8
       try clear q10
       try clear q8
       obtain ⟨kq, x15_4, rfl, HA, HJ4, ⟨mc4, rfl⟩⟩ := hcut
       cases kq with
       | zero => exact absurd HA.out (by simp [spec_ReadHex.j2])
       | succ kj4 =>
        have H := HA.out
        clear HA
        simp only [spec_ReadHex.j2] at H
        by_cases c11 : x15_4 = true
        ·subst c11
         have H1 : (if 0 ≤ x4_1 then (if x4_1 < (a0.size : Int) then (spec_ReadHex.l0 kj4 a0 (wrap64 ((wrap64 (16 * x3_1)) + (((bt a0 x4_1) - 48) % 256))) (wrap64 (x4_1 + 1))) else (none)) else (none)) = some r := by rw [if_pos rfl] at H; exact H
         clear H
         have H := H1
         clear H1
         by_cases c12 : 0 ≤ x4_1; rotate_left
         ·rw [if_neg c12] at H; exact absurd H (by simp)
         rw [if_pos c12] at H
         have c12b0 : decide (0 ≤ x4_1) = true := decide_eq_true c12
         clear c12
         by_cases c13 : x4_1 < (a0.size : Int); rotate_left
         ·rw [if_neg c13] at H; exact absurd H (by simp)
         rw [if_pos c13] at H
         have c13b0 : decide (x4_1 < (a0.size : Int)) = true := decide_eq_true c13
         clear c13
         have H' := Aside0.mk H
         clear H
         have p14 : 0 ≤ (x4_1 : Int) := dt_
         have q14 : x4_1 < (a0.size : Int) := dt_
         have hx14 := bt_at a0 x4_1
         replace p14 := eq_true p14
         replace q14 := eq_true q14
         go_wp2
         go_roundg kj4
         case measure => have := HK1.out; have := HJ1.out; have := HJ4.out; omega
         case rel => exact ⟨(wrap64 ((wrap64 (16 * x3_1)) + (((bt a0 x4_1) - 48) % 256))), (wrap64 (x4_1 + 1)), rs_, rs_, H', ⟨by have := HK1.out; have := HJ1.out; have := HJ4.out; omega⟩, dw_⟩
        ·replace c11 := Bool.eq_false_iff.mpr c11
         subst c11
         have H1 : (if 0 ≤ x4_1 then (if x4_1 < (a0.size : Int) then (if (bt a0 x4_1) ≥ 97 then (if (bt a0 x4_1) ≤ 102 then (spec_ReadHex.l0 kj4 a0 (wrap64 ((wrap64 ((wrap64 (16 * x3_1)) + (((bt a0 x4_1) - 97) % 256))) + 10)) (wrap64 (x4_1 + 1))) else (some (-1))) else (some (-1))) else (none)) else (none)) = some r := by rw [if_neg (show ¬ (false = true) by decide)] at H; exact H
         clear H
         have H := H1
         clear H1
         by_cases c15 : 0 ≤ x4_1; rotate_left
         ·rw [if_neg c15] at H; exact absurd H (by simp)
         rw [if_pos c15] at H
         have c15b0 : decide (0 ≤ x4_1) = true := decide_eq_true c15
         clear c15
         by_cases c16 : x4_1 < (a0.size : Int); rotate_left
         ·rw [if_neg c16] at H; exact absurd H (by simp)
         rw [if_pos c16] at H
         have c16b0 : decide (x4_1 < (a0.size : Int)) = true := decide_eq_true c16
         clear c16
         by_cases c18 : (bt a0 x4_1) ≥ 97
         ·rw [if_pos c18] at H
          have c18b0 : decide (97 ≤ (bt a0 x4_1)) = true := decide_eq_true c18
          clear c18
          by_cases c20 : (bt a0 x4_1) ≤ 102
          ·rw [if_pos c20] at H
           have c20b0 : decide ((bt a0 x4_1) ≤ 102) = true := decide_eq_true c20
           clear c20
           have H' := Aside0.mk H
           clear H
           have p17 : 0 ≤ (x4_1 : Int) := dt_
           have q17 : x4_1 < (a0.size : Int) := dt_
           have hx17 := bt_at a0 x4_1
           replace p17 := eq_true p17
           replace q17 := eq_true q17
           have p19 : 0 ≤ (x4_1 : Int) := dt_
           have q19 : x4_1 < (a0.size : Int) := dt_
           have hx19 := bt_at a0 x4_1
           replace p19 := eq_true p19
           replace q19 := eq_true q19
           have p21 : 0 ≤ (x4_1 : Int) := dt_
           have q21 : x4_1 < (a0.size : Int) := dt_
           have hx21 := bt_at a0 x4_1
           replace p21 := eq_true p21
           replace q21 := eq_true q21
           go_wp2
           go_roundg kj4
           case measure => have := HK1.out; have := HJ1.out; have := HJ4.out; omega
           case rel => exact ⟨(wrap64 ((wrap64 ((wrap64 (16 * x3_1)) + (((bt a0 x4_1) - 97) % 256))) + 10)), (wrap64 (x4_1 + 1)), rs_, rs_, H', ⟨by have := HK1.out; have := HJ1.out; have := HJ4.out; omega⟩, dw_⟩
          ·rw [if_neg c20] at H
           have c20b0 : decide ((bt a0 x4_1) ≤ 102) = false := decide_eq_false c20
           clear c20
           obtain rfl := Option.some.inj H
           have p17 : 0 ≤ (x4_1 : Int) := dt_
           have q17 : x4_1 < (a0.size : Int) := dt_
           have hx17 := bt_at a0 x4_1
           replace p17 := eq_true p17
           replace q17 := eq_true q17
           have p19 : 0 ≤ (x4_1 : Int) := dt_
           have q19 : x4_1 < (a0.size : Int) := dt_
           have hx19 := bt_at a0 x4_1
           replace p19 := eq_true p19
           replace q19 := eq_true q19
           go_wp2
           go_ret
           exact ⟨rs_, dw_⟩
         ·rw [if_neg c18] at H
          have c18b0 : decide (97 ≤ (bt a0 x4_1)) = false := decide_eq_false c18
          clear c18
          obtain rfl := Option.some.inj H
          have p17 : 0 ≤ (x4_1 : Int) := dt_
          have q17 : x4_1 < (a0.size : Int) := dt_
          have hx17 := bt_at a0 x4_1
          replace p17 := eq_true p17
          replace q17 := eq_true q17
          go_wp2
          go_ret
          exact ⟨rs_, dw_⟩
     ·replace c4 := Bool.eq_false_iff.mpr c4
      subst c4
      have H1 : (if a0.toList = ([] : List UInt8) then (some (-1)) else ((spec_HexText.f kj1 x3_1).bind fun t959 => (if t959.toList = a0.toList then (some x3_1) else (some (-1))))) = some r := by rw [if_neg (show ¬ (false = true) by decide)] at H; exact H
      clear H
      have H := H1
      clear H1
      by_cases c22 : a0.toList = ([] : List UInt8)
      ·rw [if_pos c22] at H
       have c22b0 : (a0.toList == ([] : List UInt8)) = true := beq_iff_eq.mpr c22
       have c22b1 : (a0.toList != ([] : List UInt8)) = false := bne_eq_false_iff_eq.mpr c22
       clear c22
       obtain rfl := Option.some.inj H
       go_wp2
       go_ret
       exact ⟨rs_, dw_⟩
      ·rw [if_neg c22] at H
       have c22b0 : (a0.toList == ([] : List UInt8)) = false := beq_eq_false_iff_ne.mpr c22
       have c22b1 : (a0.toList != ([] : List UInt8)) = true := bne_iff_ne.mpr c22
       replace H := Option.bind_eq_some_iff.mp H
       obtain ⟨t959, A230, H⟩ := H
       replace H : (if t959.toList = a0.toList then (some x3_1) else (some (-1))) = some r := H
       have A23 := Aside0.mk A230
       clear A230
       by_cases c24 : t959.toList = a0.toList
       ·rw [if_pos c24] at H
        have c24b0 : (t959.toList == a0.toList) = true := beq_iff_eq.mpr c24
        have c24b1 : (t959.toList != a0.toList) = false := bne_eq_false_iff_eq.mpr c24
        clear c24
        obtain rfl := Option.some.inj H
        go_wp2_with (first | (go_at_call 79; (with_reducible refine (spec_HexText.calls kj1 x3_1 t959 _ A23.out).mono ?_); rintro e w' ⟨rfl, ⟨nd, rfl⟩⟩))
        go_ret
        exact ⟨rs_, dw_⟩
       ·rw [if_neg c24] at H
        have c24b0 : (t959.toList == a0.toList) = false := beq_eq_false_iff_ne.mpr c24
        have c24b1 : (t959.toList != a0.toList) = true := bne_iff_ne.mpr c24
        obtain rfl := Option.some.inj H
        go_wp2_with (first | (go_at_call 79; (with_reducible refine (spec_HexText.calls kj1 x3_1 t959 _ A23.out).mono ?_); rintro e w' ⟨rfl, ⟨nd, rfl⟩⟩))
        go_ret
        exact ⟨rs_, dw_⟩
/-! ### spec_ReadFolder: function 114 -/
mutual
def spec_ReadFolder.l0 : Nat → ByteArray → List (S109) → Int → Option ((List (S109)) × Bool)
 | 0, _, _, _ => none
 | k + 1, x0, x4, x5 => if x5 < (x0.size : Int) then (spec_ReadFolder.l1 k x0 x4 x5 x5) else ((spec_FolderText.f k x4).bind fun t970 => (if t970.toList = x0.toList then (if x0.toList = ([] : List UInt8) then (some ((([] : List (S109))), false)) else (some (x4, true))) else (some ((([] : List (S109))), false))))
def spec_ReadFolder.j2 : Nat → ByteArray → List (S109) → Int → Int → Option ((List (S109)) × Bool)
 | 0, _, _, _, _ => none
 | k + 1, x0, x4, x5, x6 => spec_ReadFolder.l2 k x0 x4 x5 x6 x6
def spec_ReadFolder.j4 : Nat → ByteArray → List (S109) → Int → Int → Int → Option ((List (S109)) × Bool)
 | 0, _, _, _, _, _ => none
 | k + 1, x0, x4, x5, x6, x7 => if x7 = (x0.size : Int) then (some ((([] : List (S109))), false)) else (if 0 ≤ x5 then (if x5 ≤ x6 then (if x6 ≤ (x0.size : Int) then (if 0 ≤ (wrap64 (x6 + 1)) then (if (wrap64 (x6 + 1)) ≤ x7 then (if x7 ≤ (x0.size : Int) then ((spec_ReadHex.f k (x0.extract ((wrap64 (x6 + 1)) : Int).toNat (x7 : Int).toNat)).bind fun t966 => (if x4.length < 5864062014805 then (spec_ReadFolder.l0 k x0 (x4 ++ [(⟨x0.extract (x5 : Int).toNat (x6 : Int).toNat, t966⟩ : S109)]) (wrap64 (x7 + 1))) else (none))) else (none)) else (none)) else (none)) else (none)) else (none)) else (none))
def spec_ReadFolder.l2 : Nat → ByteArray → List (S109) → Int → Int → Int → Option ((List (S109)) × Bool)
 | 0, _, _, _, _, _ => none
 | k + 1, x0, x4, x5, x6, x7 => if x7 < (x0.size : Int) then (if 0 ≤ x7 then (if (bt x0 x7) = 59 then (spec_ReadFolder.j4 k x0 x4 x5 x6 x7) else (spec_ReadFolder.l2 k x0 x4 x5 x6 (wrap64 (x7 + 1)))) else (none)) else (spec_ReadFolder.j4 k x0 x4 x5 x6 x7)
def spec_ReadFolder.l1 : Nat → ByteArray → List (S109) → Int → Int → Option ((List (S109)) × Bool)
 | 0, _, _, _, _ => none
 | k + 1, x0, x4, x5, x6 => if x6 < (x0.size : Int) then (if 0 ≤ x6 then (if (bt x0 x6) = 61 then (spec_ReadFolder.j2 k x0 x4 x5 x6) else (spec_ReadFolder.l1 k x0 x4 x5 (wrap64 (x6 + 1)))) else (none)) else (spec_ReadFolder.j2 k x0 x4 x5 x6)
end
def spec_ReadFolder.f (k : Nat) (a0 : ByteArray) : Option ((List (S109)) × Bool) := spec_ReadFolder.l0 k a0 (([] : List (S109))) 1
def spec_ReadFolder.T12 : Bool × List (List Nat × List Nat) := (true, [([], []), ([], []), ([], []), ([], []), ([1, 2, 3], [1, 2, 3]), ([], []), ([], []), ([6], [6]), ([], []), ([5, 7, 8], [5, 7, 8]), ([9], [9]), ([4, 10], [4, 10]), ([11], [11]), ([0, 12, 10], [0, 12]), ([13, 13, 0, 1, 2, 3, 4, 5, 6, 7, 8, 9, 10, 11, 12, 13], [0, 13])])
def spec_ReadFolder.B12 : List Nat := [0, 0, 0, 0, 14, 0, 0, 64, 0, 480, 992, 2046, 4094, 8191, 16383]
theorem spec_ReadFolder.tab12 : rtab .any (opsOf Try.f114 12) = spec_ReadFolder.T12 := by kernel_rfl
theorem spec_ReadFolder.bits12 : waitsOk spec_ReadFolder.T12.2 spec_ReadFolder.B12 = true := by kernel_rfl
set_option maxHeartbeats 8000000 in
set_option maxRecDepth 100000 in
theorem spec_ReadFolder.calls (k : Nat) (a0 : ByteArray) (r1 : List (S109)) (r2 : Bool) (w : World) (h : spec_ReadFolder.f k a0 = some (r1, r2)) :
  Calls Try.prog 114 #[.string a0] w fun e w' => ∃ v0_ : Value, e = .returned (.tuple #[v0_, .bool r2]) ∧ Kd.R k109 109 w' w.heap.size (fun _ => True) v0_ r1 ∧ Below w.heap.size w w' := by
 have hu109 := Try.underlying109
 have HB := Aside0.mk (Below.refl w.heap.size w)
 have H : (spec_ReadFolder.l0 k a0 (([] : List (S109))) 1) = some (r1, r2) := h
 clear h
 obtain ⟨y960, hy960⟩ : ∃ y_ : List (S109), y_ = (([] : List (S109))) := ⟨_, rfl⟩
 replace H : (spec_ReadFolder.l0 k a0 y960 1) = some (r1, r2) := hq_ hy960 H
 have Ny960 := Aside0.mk hy960
 clear hy960
 have H' := Aside0.mk H
 clear H
 go_enter Try.func114, Try.ntmps114
 go_wp2_with (first | ((with_reducible refine gate_dst (N := 8) rfl ?_); refine Kd.R_lit k109 _ 109 ?hg (N := 8) ?hd (xs := ([] : List (S109))) (inner := []) (ok := fun _ => True) (okp := fun _ => True) ?hr ?hp (fun _ hk => hk) trivial (Below.refl _ _) (Nat.le_refl _) (by simp) ?_; (case hd => rfl); (case hg => rfl); (case hr => first | (go_simp; done) | (go_simp; rfl)); (case hp => exact (Reps.none _ _)); intro v961 w2 ho3 hb hg_ hnew_; clear hg_ hnew_; (first | rw [← Ny960.out] at ho3 | (simp only [Int.reduceToNat] at ho3; rw [← Ny960.out] at ho3)); have HO962 := Aside0.mk (Kd.R_lower ho3 (below_size hb_)); replace HB := Aside0.mk (below_step hb_ hb); clear hb ho3))
 go_loopg [4, 5] k (fun kq v4 v5 w' => ∃ (x4_1 : List (S109)) (x5_1 : Int), v5 = .int .i64 x5_1 ∧ Aside0 (spec_ReadFolder.l0 kq a0 x4_1 x5_1 = some (r1, r2)) ∧ Aside0 (kq ≤ k) ∧ Aside0 (Kd.R k109 109 w' w.heap.size (fun _ => True) v4 x4_1) ∧ Aside0 (Below w.heap.size w w'))
 case atStart => exact ⟨(y960), (1), rs_, H', ⟨Nat.le_refl _⟩, ⟨by refine kR_ ?_; exact HO962.out⟩, ⟨hb_⟩⟩
 case round =>
  clear H'
  try clear c1
  try clear p2
  obtain ⟨x4_1, x5_1, rfl, HA, HK1, HO_4, HB⟩ := hrel
  cases gk with
  | zero => exact absurd HA.out (by simp [spec_ReadFolder.l0])
  | succ k1 =>
   have H := HA.out
   clear HA
   simp only [spec_ReadFolder.l0] at H
   by_cases c4 : x5_1 < (a0.size : Int)
   ·rw [if_pos c4] at H
    have c4b0 : decide (x5_1 < (a0.size : Int)) = true := decide_eq_true c4
    clear c4
    have HC5 := Aside0.mk H
    clear H
    go_upto_block 2 with (fail)
    go_cut [6] (fun v6 wc => ∃ (kq : Nat) (x6_4 : Int), v6 = .int .i64 x6_4 ∧ Aside0 (spec_ReadFolder.j2 kq a0 x4_1 x5_1 x6_4 = some (r1, r2)) ∧ Aside0 (kq ≤ k1) ∧ Aside0 (Kd.R k109 109 wc w.heap.size (fun _ => True) u4 x4_1) ∧ Aside0 (Below w.heap.size w wc))
    case first =>
     have H := HC5.out
     clear HC5
     have H' := Aside0.mk H
     clear H
     go_wp2
     go_loopg [6] k1 (fun kq v6 w' => ∃ (x6_2 : Int), v6 = .int .i64 x6_2 ∧ Aside0 (spec_ReadFolder.l1 kq a0 x4_1 x5_1 x6_2 = some (r1, r2)) ∧ Aside0 (kq ≤ k1) ∧ Aside0 (Kd.R k109 109 w' w.heap.size (fun _ => True) u4 x4_1) ∧ Aside0 (Below w.heap.size w w'))
     case atStart => exact ⟨(x5_1), rs_, H', ⟨Nat.le_refl _⟩, ⟨by refine kR_ ?_; exact HO_4.out⟩, ⟨hb_⟩⟩
     case round =>
      clear H'
      try clear c1
      try clear p2
      try clear c4
      try clear c4b0
      try clear p2
      obtain ⟨x6_2, rfl, HA, HK2, HO_4, HB⟩ := hrel
      cases gk with
      | zero => exact absurd HA.out (by simp [spec_ReadFolder.l1])
      | succ k2 =>
       have H := HA.out
       clear HA
       simp only [spec_ReadFolder.l1] at H
       by_cases c6 : x6_2 < (a0.size : Int)
       ·rw [if_pos c6] at H
        have c6b0 : decide (x6_2 < (a0.size : Int)) = true := decide_eq_true c6
        clear c6
        (first | rw [c6b0] | (simp only [i64_w, i32_w]; rw [c6b0]) | skip)
        by_cases c7 : 0 ≤ x6_2; rotate_left
        ·rw [if_neg c7] at H; exact absurd H (by simp)
        rw [if_pos c7] at H
        have c7b0 : decide (0 ≤ x6_2) = true := decide_eq_true c7
        clear c7
        by_cases c9 : (bt a0 x6_2) = 61
        ·rw [if_pos c9] at H
         have c9b0 : ((bt a0 x6_2) == 61) = true := beq_iff_eq.mpr c9
         have c9b1 : ((bt a0 x6_2) != 61) = false := bne_eq_false_iff_eq.mpr c9
         clear c9
         have H' := Aside0.mk H
         clear H
         have p8 : 0 ≤ (x6_2 : Int) := dt_
         have q8 : x6_2 < (a0.size : Int) := dt_
         have hx8 := bt_at a0 x6_2
         replace p8 := eq_true p8
         replace q8 := eq_true q8
         go_wp2
         go_meet
         case rel => exact ⟨_, (x6_2), rs_, H', ⟨by have := HK1.out; have := HK2.out; first | omega | exact Nat.le_refl _⟩, ⟨by refine kR_ ?_; exact HO_4.out⟩, ⟨hb_⟩⟩
        ·rw [if_neg c9] at H
         have c9b0 : ((bt a0 x6_2) == 61) = false := beq_eq_false_iff_ne.mpr c9
         have c9b1 : ((bt a0 x6_2) != 61) = true := bne_iff_ne.mpr c9
         have H' := Aside0.mk H
         clear H
         have p8 : 0 ≤ (x6_2 : Int) := dt_
         have q8 : x6_2 < (a0.size : Int) := dt_
         have hx8 := bt_at a0 x6_2
         replace p8 := eq_true p8
         replace q8 := eq_true q8
         go_wp2
         go_roundg k2
         case measure => have := HK1.out; have := HK2.out; omega
         case rel => exact ⟨(wrap64 (x6_2 + 1)), rs_, H', ⟨by have := HK1.out; have := HK2.out; omega⟩, ⟨by refine kR_ ?_; exact HO_4.out⟩, ⟨hb_⟩⟩
       ·rw [if_neg c6] at H
        have c6b0 : decide (x6_2 < (a0.size : Int)) = false := decide_eq_false c6
        clear c6
        (first | rw [c6b0] | (simp only [i64_w, i32_w]; rw [c6b0]) | skip)
        have H' := Aside0.mk H
        clear H
        go_wp2
        go_meet
        case rel => exact ⟨_, (x6_2), rs_, H', ⟨by have := HK1.out; have := HK2.out; first | omega | exact Nat.le_refl _⟩, ⟨by refine kR_ ?_; exact HO_4.out⟩, ⟨hb_⟩⟩
    case rest =>
     clear HC5
     try clear c1
     try clear p2
     try clear c4
     try clear c4b0
     try clear c6
     try clear c6b0
     try clear p6
     try clear c7
     try clear c7b0
     try clear p8
     try clear q8
     try clear hx8
     try clear c9
     try clear c9b0
     try clear c9b1
     try clear p2
     try clear p8
     try clear q8
     obtain ⟨kq, x6_4, rfl, HA, HJ4, HO_4, HB⟩ := hcut
     cases kq with
     | zero => exact absurd HA.out (by simp [spec_ReadFolder.j2])
     | succ kj4 =>
      have H := HA.out
      clear HA
      simp only [spec_ReadFolder.j2] at H
      have HC10 := Aside0.mk H
      clear H
      go_upto_block 4 with (fail)
      go_cut [7] (fun v7 wc => ∃ (kq : Nat) (x7_9 : Int), v7 = .int .i64 x7_9 ∧ Aside0 (spec_ReadFolder.j4 kq a0 x4_1 x5_1 x6_4 x7_9 = some (r1, r2)) ∧ Aside0 (kq ≤ kj4) ∧ Aside0 (Kd.R k109 109 wc w.heap.size (fun _ => True) u4 x4_1) ∧ Aside0 (Below w.heap.size w wc))
      case first =>
       have H := HC10.out
       clear HC10
       have H' := Aside0.mk H
       clear H
       go_wp2
       go_loopg [7] kj4 (fun kq v7 w' => ∃ (x7_3 : Int), v7 = .int .i64 x7_3 ∧ Aside0 (spec_ReadFolder.l2 kq a0 x4_1 x5_1 x6_4 x7_3 = some (r1, r2)) ∧ Aside0 (kq ≤ kj4) ∧ Aside0 (Kd.R k109 109 w' w.heap.size (fun _ => True) u4 x4_1) ∧ Aside0 (Below w.heap.size w w'))
       case atStart => exact ⟨(x6_4), rs_, H', ⟨Nat.le_refl _⟩, ⟨by refine kR_ ?_; exact HO_4.out⟩, ⟨hb_⟩⟩
       case round =>
        clear H'
        try clear c1
        try clear p2
        try clear c4
        try clear c4b0
        try clear c6
        try clear c6b0
        try clear p6
        try clear c7
        try clear c7b0
        try clear p8
        try clear q8
        try clear hx8
        try clear c9
        try clear c9b0
        try clear c9b1
        try clear p2
        try clear p6
        try clear p8
        try clear q8
        obtain ⟨x7_3, rfl, HA, HK3, HO_4, HB⟩ := hrel
        cases gk with
        | zero => exact absurd HA.out (by simp [spec_ReadFolder.l2])
        | succ k3 =>
         have H := HA.out
         clear HA
         simp only [spec_ReadFolder.l2] at H
         by_cases c11 : x7_3 < (a0.size : Int)
         ·rw [if_pos c11] at H
          have c11b0 : decide (x7_3 < (a0.size : Int)) = true := decide_eq_true c11
          clear c11
          (first | rw [c11b0] | (simp only [i64_w, i32_w]; rw [c11b0]) | skip)
          by_cases c12 : 0 ≤ x7_3; rotate_left
          ·rw [if_neg c12] at H; exact absurd H (by simp)
          rw [if_pos c12] at H
          have c12b0 : decide (0 ≤ x7_3) = true := decide_eq_true c12
          clear c12
          by_cases c14 : (bt a0 x7_3) = 59
          ·rw [if_pos c14] at H
           have c14b0 : ((bt a0 x7_3) == 59) = true := beq_iff_eq.mpr c14
           have c14b1 : ((bt a0 x7_3) != 59) = false := bne_eq_false_iff_eq.mpr c14
           clear c14
           have H' := Aside0.mk H
           clear H
           have p13 : 0 ≤ (x7_3 : Int) := dt_
           have q13 : x7_3 < (a0.size : Int) := dt_
           have hx13 := bt_at a0 x7_3
           replace p13 := eq_true p13
           replace q13 := eq_true q13
           go_wp2
           go_meet
           case rel => exact ⟨_, (x7_3), rs_, H', ⟨by have := HK1.out; have := HJ4.out; have := HK3.out; first | omega | exact Nat.le_refl _⟩, ⟨by refine kR_ ?_; exact HO_4.out⟩, ⟨hb_⟩⟩
          ·rw [if_neg c14] at H
           have c14b0 : ((bt a0 x7_3) == 59) = false := beq_eq_false_iff_ne.mpr c14
           have c14b1 : ((bt a0 x7_3) != 59) = true := bne_iff_ne.mpr c14
           have H' := Aside0.mk H
           clear H
           have p13 : 0 ≤ (x7_3 : Int) := dt_
           have q13 : x7_3 < (a0.size : Int) := dt_
           have hx13 := bt_at a0 x7_3
           replace p13 := eq_true p13
           replace q13 := eq_true q13
           go_wp2
           go_roundg k3
           case measure => have := HK1.out; have := HJ4.out; have := HK3.out; omega
           case rel => exact ⟨(wrap64 (x7_3 + 1)), rs_, H', ⟨by have := HK1.out; have := HJ4.out; have := HK3.out; omega⟩, ⟨by refine kR_ ?_; exact HO_4.out⟩, ⟨hb_⟩⟩
         ·rw [if_neg c11] at H
          have c11b0 : decide (x7_3 < (a0.size : Int)) = false := decide_eq_false c11
          clear c11
          (first | rw [c11b0] | (simp only [i64_w, i32_w]; rw [c11b0]) | skip)
          have H' := Aside0.mk H
          clear H
          go_wp2
          go_meet
          case rel => exact ⟨_, (x7_3), rs_, H', ⟨by have := HK1.out; have := HJ4.out; have := HK3.out; first | omega | exact Nat.le_refl _⟩, ⟨by refine kR_ ?_; exact HO_4.out⟩, ⟨hb_⟩⟩
      case rest =>
       clear HC10
       try clear c1
       try clear p1
       try clear q1
       try clear hx1
       try clear p2
       try clear c4
       try clear c4b0
       try clear c6
       try clear c6b0
       try clear p6
       try clear c7
       try clear c7b0
       try clear p8
       try clear q8
       try clear hx8
       try clear c9
       try clear c9b0
       try clear c9b1
       try clear c11
       try clear c11b0
       try clear c12
       try clear c12b0
       try clear p13
       try clear q13
       try clear hx13
       try clear c14
       try clear c14b0
       try clear c14b1
       try clear p13
       try clear p2
       try clear p6
       try clear p8
       try clear q13
       try clear q8
       obtain ⟨kq, x7_9, rfl, HA, HJ9, HO_4, HB⟩ := hcut
       cases kq with
       | zero => exact absurd HA.out (by simp [spec_ReadFolder.j4])
       | succ kj9 =>
        have H := HA.out
        clear HA
        simp only [spec_ReadFolder.j4] at H
        by_cases c15 : x7_9 = (a0.size : Int)
        ·rw [if_pos c15] at H
         have c15b0 : (x7_9 == (a0.size : Int)) = true := beq_iff_eq.mpr c15
         have c15b1 : (x7_9 != (a0.size : Int)) = false := bne_eq_false_iff_eq.mpr c15
         clear c15
         obtain ⟨y963, hy963⟩ : ∃ y_ : List (S109), y_ = (([] : List (S109))) := ⟨_, rfl⟩
         replace H : (some (y963, false)) = some (r1, r2) := hq_ hy963 H
         have Ny963 := Aside0.mk hy963
         clear hy963
         simp only [Option.some.injEq, Prod.mk.injEq] at H
         obtain ⟨rfl, rfl⟩ := H
         go_wp2_with (first | ((with_reducible refine gate_dst (N := 43) rfl ?_); refine Kd.R_lit k109 _ 109 ?hg (N := 43) ?hd (xs := ([] : List (S109))) (inner := []) (ok := fun _ => True) (okp := fun _ => True) ?hr ?hp (fun _ hk => hk) trivial (Below.refl _ _) (Nat.le_refl _) (by simp) ?_; (case hd => rfl); (case hg => rfl); (case hr => first | (go_simp; done) | (go_simp; rfl)); (case hp => exact (Reps.none _ _)); intro v964 w16 ho17 hb hg_ hnew_; clear hg_ hnew_; (first | rw [← Ny963.out] at ho17 | (simp only [Int.reduceToNat] at ho17; rw [← Ny963.out] at ho17)); have HO965 := Aside0.mk (Kd.R_lower (Kd.R_new' ho17 (Kd.R_lt (kR_ HO_4.out))) (below_size hb_)); replace HO_4 := Aside0.mk (Kd.R_elder' (kR_ HO_4.out) (Kd.R_base ho17) hb); replace HB := Aside0.mk (below_step hb_ hb); clear hb ho17))
         go_ret2
         exact ⟨_, er_, by refine kR_ ?_; exact Kd.R_mono HO965.out (fun _ hk => trivial), hb_⟩
        ·rw [if_neg c15] at H
         have c15b0 : (x7_9 == (a0.size : Int)) = false := beq_eq_false_iff_ne.mpr c15
         have c15b1 : (x7_9 != (a0.size : Int)) = true := bne_iff_ne.mpr c15
         by_cases c18 : 0 ≤ x5_1; rotate_left
         ·rw [if_neg c18] at H; exact absurd H (by simp)
         rw [if_pos c18] at H
         have c18b0 := eq_true c18
         have c18b1 : decide (0 ≤ x5_1) = true := decide_eq_true c18
         clear c18
         by_cases c19 : x5_1 ≤ x6_4; rotate_left
         ·rw [if_neg c19] at H; exact absurd H (by simp)
         rw [if_pos c19] at H
         have c19b0 := eq_true c19
         have c19b1 : decide (x5_1 ≤ x6_4) = true := decide_eq_true c19
         clear c19
         by_cases c20 : x6_4 ≤ (a0.size : Int); rotate_left
         ·rw [if_neg c20] at H; exact absurd H (by simp)
         rw [if_pos c20] at H
         have c20b0 := eq_true c20
         have c20b1 : decide (x6_4 ≤ (a0.size : Int)) = true := decide_eq_true c20
         clear c20
         obtain ⟨ji21, hji21⟩ : ∃ j_ : Int, (wrap64 (x6_4 + 1)) = j_ := ⟨_, rfl⟩
         replace H : (if 0 ≤ (ji21) then (if (ji21) ≤ x7_9 then (if x7_9 ≤ (a0.size : Int) then ((spec_ReadHex.f kj9 (a0.extract ((ji21) : Int).toNat (x7_9 : Int).toNat)).bind fun t966 => (if x4_1.length < 5864062014805 then (spec_ReadFolder.l0 kj9 a0 (x4_1 ++ [(⟨a0.extract (x5_1 : Int).toNat (x6_4 : Int).toNat, t966⟩ : S109)]) (wrap64 (x7_9 + 1))) else (none))) else (none)) else (none)) else (none)) = some (r1, r2) := by first | (rw [hji21] at H; exact H) | (simp only [hji21] at H ⊢; exact H)
         have hji21w : (IntKind.i64.wrap (x6_4 + 1)) = ji21 := (i64_w _).trans hji21
         by_cases c22 : 0 ≤ (ji21); rotate_left
         ·rw [if_neg c22] at H; exact absurd H (by simp)
         rw [if_pos c22] at H
         have c22b0 := eq_true c22
         have c22b1 : decide (0 ≤ (ji21)) = true := decide_eq_true c22
         clear c22
         by_cases c23 : (ji21) ≤ x7_9; rotate_left
         ·rw [if_neg c23] at H; exact absurd H (by simp)
         rw [if_pos c23] at H
         have c23b0 := eq_true c23
         have c23b1 : decide ((ji21) ≤ x7_9) = true := decide_eq_true c23
         clear c23
         by_cases c24 : x7_9 ≤ (a0.size : Int); rotate_left
         ·rw [if_neg c24] at H; exact absurd H (by simp)
         rw [if_pos c24] at H
         have c24b0 := eq_true c24
         have c24b1 : decide (x7_9 ≤ (a0.size : Int)) = true := decide_eq_true c24
         clear c24
         replace H := Option.bind_eq_some_iff.mp H
         obtain ⟨t966, A250, H⟩ := H
         replace H : (if x4_1.length < 5864062014805 then (spec_ReadFolder.l0 kj9 a0 (x4_1 ++ [(⟨a0.extract (x5_1 : Int).toNat (x6_4 : Int).toNat, t966⟩ : S109)]) (wrap64 (x7_9 + 1))) else (none)) = some (r1, r2) := H
         have A25 := Aside0.mk A250
         clear A250
         by_cases c26 : x4_1.length < 5864062014805; rotate_left
         ·rw [if_neg c26] at H; exact absurd H (by simp)
         rw [if_pos c26] at H
         have LMc26 := Aside0.mk c26
         clear c26
         obtain ⟨y967, hy967⟩ : ∃ y_ : List (S109), y_ = (x4_1 ++ [(⟨a0.extract (x5_1 : Int).toNat (x6_4 : Int).toNat, t966⟩ : S109)]) := ⟨_, rfl⟩
         replace H : (spec_ReadFolder.l0 kj9 a0 y967 (wrap64 (x7_9 + 1))) = some (r1, r2) := hq_ hy967 H
         have Ny967 := Aside0.mk hy967
         clear hy967
         have H' := Aside0.mk H
         clear H
         try go_wp2
         replace HO_4 := Aside0.mk (Kd.R_drew HO_4.out)
         replace HB := Aside0.mk (below_drew1 HB.out)
         refine start_ (n := 15) (S := fun w' => True) (ds := []) (tf_ 0 15) (by kernel_rfl) rfl rfl trivial (fun hHeld => ?_); refine with_tabW spec_ReadFolder.tab12 spec_ReadFolder.bits12 (fun HT_ HW_ => ?_)
         generalize wc.drew = w27 at HO_4 HB hHeld ⊢
         refine paA_ 0 44 1 14 ?_
         refine paA_ 1 45 2 13 ?_
         refine paA_ 2 46 3 12 ?_
         refine paA_ 3 47 4 11 ?_
         refine paA_ 4 48 5 10 ?_
         refine paA_ 5 49 6 9 ?_
         refine paA_ 6 50 7 8 ?_
         refine paA_ 7 51 8 7 ?_
         refine paA_ 8 52 9 6 ?_
         refine paA_ 9 53 10 5 ?_
         refine one_ (i := 10) (N := some 54) (tf_ 11 4) rfl rfl (one_of HT_.out (by kernel_rfl)) (by decide) (fun K hK => ?_)
         refine goes_ Try.func118 (by kernel_rfl) rfl #[.string (a0.extract ((ji21) : Int).toNat (x7_9 : Int).toNat)] (by rfl) rfl rfl (by (try simp only [List.map_toArray, List.map_cons, List.map_nil]); first | done | (simp only [hji21]; rfl) | rfl | (simp only [List.length_drop, List.length_take]; rfl)) ?_
         with_reducible refine (spec_ReadHex.calls kj9 (a0.extract ((ji21) : Int).toNat (x7_9 : Int).toNat) t966 _ A25.out).mono ?_
         rintro e w' ⟨rfl, ⟨nd, rfl⟩⟩
         refine ⟨_, rfl, ?_⟩
         refine hK.out _ _ trivial (fun hHeld => ?_)
         clear hK K
         refine norm_ (a' := ?_) ?_ ?_
         rotate_left
         ·show Act.put _ (some 54) _ = _
          simp only [Act.put, List.setIfInBounds_toArray, List.set_cons_zero, List.set_cons_succ, i64_w, i32_w]
          rfl
         refine paA_ 11 55 12 3 ?_
         refine one_ (i := 12) (N := some 56) (tf_ 13 2) rfl rfl (one_of HT_.out (by kernel_rfl)) (by decide) (fun K hK => ?_)
         refine value_ (w1 := ?_) (v := ?_) (by rfl) rfl ?_ ?_
         rotate_left 2
         ·go_simp
          constructor
          ·rfl
          ·rfl
         refine hK.out _ _ trivial (fun hHeld => ?_)
         clear hK K
         refine norm_ (a' := ?_) ?_ ?_
         rotate_left
         ·show Act.put _ (some 56) _ = _
          simp only [Act.put, List.setIfInBounds_toArray, List.set_cons_zero, List.set_cons_succ, i64_w, i32_w]
          rfl
         refine one_ (i := 13) (N := some 57) (tf_ 14 1) rfl rfl (one_of HT_.out (by kernel_rfl)) (by decide) (fun K hK => ?_)
         refine Kd.R_append_step k109 (w0 := w) w.heap.size (by rfl) (.tmp 44) (.tmp 56) 102 109 (.agg #[(.string ⟨#[]⟩), (.int .i64 0)]) 24 rfl Try.underlying102 info109 rfl (by decide) (by omega) u4 x4_1 (⟨a0.extract (x5_1 : Int).toNat (x6_4 : Int).toNat, t966⟩ : S109) [.string (a0.extract (x5_1 : Int).toNat (x6_4 : Int).toNat), .int .i64 t966] (fun _ => True) (fun _ => False) rfl rfl ?aP (fun _ hk => hk.elim) ?aF ?aO ?aB ?aS ?aL ?_
         (case aP => exact k109_mkM _ _ _ (⟨a0.extract (x5_1 : Int).toNat (x6_4 : Int).toNat, t966⟩ : S109))
         (case aB => exact hb_)
         (case aF => exact (fun _ _ => trivial))
         (case aO => exact (kR_ HO_4.out))
         (case aS => exact (below_size hb_))
         (case aL => have := LMc26.out; omega)
         intro v968 w28 ho hb hg hat
         rw [← Ny967.out] at ho
         have n0_ := Aside0.mk (hb)
         have n1_ := Aside0.mk (ho)
         clear HB
         clear HO_4
         have HB := n0_
         have HO969 := n1_
         clear n0_ n1_
         clear ho hb hg hat
         refine hK.out _ _ trivial (fun hHeld => ?_)
         clear hK K
         refine norm_ (a' := ?_) ?_ ?_
         rotate_left
         ·show Act.put _ (some 57) _ = _
          simp only [Act.put, List.setIfInBounds_toArray, List.set_cons_zero, List.set_cons_succ, i64_w, i32_w]
          rfl
         refine paA_ 14 4 15 0 ?_
         refine done_ (done_of HT_.out (by kernel_rfl)) ?_
         try go_wp2
         go_roundg kj9
         case measure => have := HK1.out; have := HJ4.out; have := HJ9.out; omega
         case rel => exact ⟨(y967), (wrap64 (x7_9 + 1)), rs_, H', ⟨by have := HK1.out; have := HJ4.out; have := HJ9.out; omega⟩, ⟨by refine kR_ ?_; exact HO969.out⟩, ⟨hb_⟩⟩
   ·rw [if_neg c4] at H
    have c4b0 : decide (x5_1 < (a0.size : Int)) = false := decide_eq_false c4
    clear c4
    replace H := Option.bind_eq_some_iff.mp H
    obtain ⟨t970, A290, H⟩ := H
    replace H : (if t970.toList = a0.toList then (if a0.toList = ([] : List UInt8) then (some ((([] : List (S109))), false)) else (some (x4_1, true))) else (some ((([] : List (S109))), false))) = some (r1, r2) := H
    have A29 := Aside0.mk A290
    clear A290
    by_cases c30 : t970.toList = a0.toList
    ·rw [if_pos c30] at H
     have c30b0 : (t970.toList == a0.toList) = true := beq_iff_eq.mpr c30
     have c30b1 : (t970.toList != a0.toList) = false := bne_eq_false_iff_eq.mpr c30
     clear c30
     by_cases c31 : a0.toList = ([] : List UInt8)
     ·rw [if_pos c31] at H
      have c31b0 : (a0.toList == ([] : List UInt8)) = true := beq_iff_eq.mpr c31
      have c31b1 : (a0.toList != ([] : List UInt8)) = false := bne_eq_false_iff_eq.mpr c31
      clear c31
      obtain ⟨y971, hy971⟩ : ∃ y_ : List (S109), y_ = (([] : List (S109))) := ⟨_, rfl⟩
      replace H : (some (y971, false)) = some (r1, r2) := hq_ hy971 H
      have Ny971 := Aside0.mk hy971
      clear hy971
      simp only [Option.some.injEq, Prod.mk.injEq] at H
      obtain ⟨rfl, rfl⟩ := H
      obtain ⟨Ao32, co32, eo32⟩ := Kd.R_slice HO_4.out
      subst eo32
      go_wp2_with (first | ((with_reducible refine gate_callee (f := 96) rfl ?_); refine gl_ (some 61) Try.func96 #[.slice Ao32 x4_1.length co32] ?_; (with_reducible refine (spec_FolderText.calls k1 _ _ x4_1 t970 _ ?side1 ?side2 A29.out).mono ?_); (case side1 => exact kC_ ((Kd.R_reads' HO_4.out).2.2)); (case side2 => exact (Kd.R_reads' HO_4.out).2.1); rintro e w33 ⟨rfl, hb⟩; refine ⟨_, rfl, ?_⟩; replace HO_4 := Aside0.mk (Kd.R_below (kR_ HO_4.out) hb); replace HB := Aside0.mk (below_step hb_ hb); (try clear hb); (try clear hk)) | ((with_reducible refine gate_dst (N := 68) rfl ?_); refine Kd.R_lit k109 _ 109 ?hg (N := 68) ?hd (xs := ([] : List (S109))) (inner := []) (ok := fun _ => True) (okp := fun _ => True) ?hr ?hp (fun _ hk => hk) trivial (Below.refl _ _) (Nat.le_refl _) (by simp) ?_; (case hd => rfl); (case hg => rfl); (case hr => first | (go_simp; done) | (go_simp; rfl)); (case hp => exact (Reps.none _ _)); intro v972 w34 ho35 hb hg_ hnew_; clear hg_ hnew_; (first | rw [← Ny971.out] at ho35 | (simp only [Int.reduceToNat] at ho35; rw [← Ny971.out] at ho35)); have HO973 := Aside0.mk (Kd.R_lower (Kd.R_new' ho35 (Kd.R_lt (kR_ HO_4.out))) (below_size hb_)); replace HO_4 := Aside0.mk (Kd.R_elder' (kR_ HO_4.out) (Kd.R_base ho35) hb); replace HB := Aside0.mk (below_step hb_ hb); clear hb ho35))
      go_ret2
      exact ⟨_, er_, by refine kR_ ?_; exact Kd.R_mono HO973.out (fun _ hk => trivial), hb_⟩
     ·rw [if_neg c31] at H
      have c31b0 : (a0.toList == ([] : List UInt8)) = false := beq_eq_false_iff_ne.mpr c31
      have c31b1 : (a0.toList != ([] : List UInt8)) = true := bne_iff_ne.mpr c31
      simp only [Option.some.injEq, Prod.mk.injEq] at H
      obtain ⟨rfl, rfl⟩ := H
      obtain ⟨Ao36, co36, eo36⟩ := Kd.R_slice HO_4.out
      subst eo36
      go_wp2_with (first | ((with_reducible refine gate_callee (f := 96) rfl ?_); refine gl_ (some 61) Try.func96 #[.slice Ao36 x4_1.length co36] ?_; (with_reducible refine (spec_FolderText.calls k1 _ _ x4_1 t970 _ ?side1 ?side2 A29.out).mono ?_); (case side1 => exact kC_ ((Kd.R_reads' HO_4.out).2.2)); (case side2 => exact (Kd.R_reads' HO_4.out).2.1); rintro e w37 ⟨rfl, hb⟩; refine ⟨_, rfl, ?_⟩; replace HO_4 := Aside0.mk (Kd.R_below (kR_ HO_4.out) hb); replace HB := Aside0.mk (below_step hb_ hb); (try clear hb)))
      go_ret2
      exact ⟨_, er_, by refine kR_ ?_; exact HO_4.out, hb_⟩
    ·rw [if_neg c30] at H
     have c30b0 : (t970.toList == a0.toList) = false := beq_eq_false_iff_ne.mpr c30
     have c30b1 : (t970.toList != a0.toList) = true := bne_iff_ne.mpr c30
     obtain ⟨y974, hy974⟩ : ∃ y_ : List (S109), y_ = (([] : List (S109))) := ⟨_, rfl⟩
     replace H : (some (y974, false)) = some (r1, r2) := hq_ hy974 H
     have Ny974 := Aside0.mk hy974
     clear hy974
     simp only [Option.some.injEq, Prod.mk.injEq] at H
     obtain ⟨rfl, rfl⟩ := H
     obtain ⟨Ao38, co38, eo38⟩ := Kd.R_slice HO_4.out
     subst eo38
     go_wp2_with (first | ((with_reducible refine gate_callee (f := 96) rfl ?_); refine gl_ (some 61) Try.func96 #[.slice Ao38 x4_1.length co38] ?_; (with_reducible refine (spec_FolderText.calls k1 _ _ x4_1 t970 _ ?side1 ?side2 A29.out).mono ?_); (case side1 => exact kC_ ((Kd.R_reads' HO_4.out).2.2)); (case side2 => exact (Kd.R_reads' HO_4.out).2.1); rintro e w39 ⟨rfl, hb⟩; refine ⟨_, rfl, ?_⟩; replace HO_4 := Aside0.mk (Kd.R_below (kR_ HO_4.out) hb); replace HB := Aside0.mk (below_step hb_ hb); (try clear hb); (try clear hk)) | ((with_reducible refine gate_dst (N := 68) rfl ?_); refine Kd.R_lit k109 _ 109 ?hg (N := 68) ?hd (xs := ([] : List (S109))) (inner := []) (ok := fun _ => True) (okp := fun _ => True) ?hr ?hp (fun _ hk => hk) trivial (Below.refl _ _) (Nat.le_refl _) (by simp) ?_; (case hd => rfl); (case hg => rfl); (case hr => first | (go_simp; done) | (go_simp; rfl)); (case hp => exact (Reps.none _ _)); intro v975 w40 ho41 hb hg_ hnew_; clear hg_ hnew_; (first | rw [← Ny974.out] at ho41 | (simp only [Int.reduceToNat] at ho41; rw [← Ny974.out] at ho41)); have HO976 := Aside0.mk (Kd.R_lower (Kd.R_new' ho41 (Kd.R_lt (kR_ HO_4.out))) (below_size hb_)); replace HO_4 := Aside0.mk (Kd.R_elder' (kR_ HO_4.out) (Kd.R_base ho41) hb); replace HB := Aside0.mk (below_step hb_ hb); clear hb ho41))
     go_ret2
     exact ⟨_, er_, by refine kR_ ?_; exact Kd.R_mono HO976.out (fun _ hk => trivial), hb_⟩
end Go.Proofs.Ytcbmkonigclceaa.P
