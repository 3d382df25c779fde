/- The row of FnExactChangesOf: for every input the law returns true, and its arguments read afterwards as they read before. No condition beyond the row's own. -/
import Derived.Test.YtjgbidklkhohfaaGreatDoorRows
import Derived.Test.YtjgbidklkhohfaaGreatDoorStmtFnExactChangesOf
import Derived.Test.YtjgbidklkhohfaaGreatDoorPureFnExactChangesOf
import Derived.Test.YtjgbidklkhohfaaGreatDoorOpen
import Derived.WalkKit
import Derived.ProofKit
import Derived.OpenShut
import Derived.ShutString
import Derived.ChangeOld
import Derived.Below
import Derived.SizedLaws
import Derived.Lib.SmallJoins
import Derived.Test.YtjgbidklkhohfaaGreatDoorTie
import Derived.Test.YtjgbidklkhohfaaGreatDoorCards
import Derived.LaidMore
import Derived.Lay
import Derived.SevenTiedAt
import Derived.Stop.Joined
import Derived.MakeChecks
import Derived.Handed
import Derived.LaidLaws
namespace Go.Proofs.YtjgbidklkhohfaaGreatDoor.fnExactChangesOf
open Go.ChangeShapes Go.WideShapes Go.ChangeAt Go.RowKit Go.Joins Go.Deep Go.Proofs.YtjgbidklkhohfaaGreatDoor.Open Go.Proofs.YtjgbidklkhohfaaGreatDoorW.PrintWords Go.Proofs.YtjgbidklkhohfaaGreatDoor.P
open Go.ChangeMaps (open_string shut_string)
set_option linter.unusedVariables false
theorem own : ownKnob Tryz.prog.godebug = none := by kernel_rfl
theorem laidOut : laidOutB Tryz.prog = true := by kernel_rfl
set_option maxRecDepth 100000 in
theorem gt_of {W : World} (h : laidMetH Tryz.prog Rows.fnExactChangesOfRow.laid W) : GT W := by
 rw [MakeChecks.laidMetH_plain _ _ _ (by kernel_rfl)] at h
 obtain ⟨ps, h, -, -⟩ := h
 obtain ⟨_, _, _, _, _, _, -, -, -, -, h, -⟩ := h
 obtain ⟨g, t, cs, fuel, p, q, hg, ht, hv, hd, -, -⟩ := h
 obtain rfl := Option.some.inj ((show Tryz.prog.globalNamed "math/bits.deBruijn64tab" = some 5 by kernel_rfl).symm.trans hg)
 obtain rfl := Option.some.inj ((show (Tryz.prog.globals[5]?).map (·.type) = some 134 by kernel_rfl).symm.trans ht)
 obtain ⟨xs, m, _, ex, _, hl, hel⟩ := DataW.trod_array Tryz.underlying134 hd
 have c5 : Tryz.prog.cellsOf 5 = 1 := by kernel_rfl
 have hE := hel 15 (by omega)
 rw [c5, Nat.mul_one, List.getElem?_eq_getElem (by omega)] at hE
 obtain ⟨z, e1, e2, _⟩ := DataW.trod_int Tryz.underlying5 hE
 have e3 : xs.map (·.1) = (match (Rows.laid_math_bits_deBruijn64tab : DataW Unit) with | .agg l => l | _ => []) := by
  have := DataW.agg.inj (Prod.mk.inj ex).1
  exact this.symm
 have e4 : (xs.map (·.1))[15]? = some (.lit (.int .u8 4)) := by rw [e3]; kernel_rfl
 rw [List.getElem?_map, List.getElem?_eq_getElem (by omega : 15 < xs.length), e2] at e4
 simp only [Option.map_some, Option.some.injEq, DataW.lit.injEq, Lit.int.injEq, true_and] at e4
 subst e4
 show W.cell? ⟨5, 15, none⟩ = some (.int .u8 4)
 rw [World.var?_cell hg hv 15]
 have h0 : ((cs.toList.drop 15).take 1)[0]? = some (.int .u8 4) := by rw [e1]; rfl
 simpa using h0
set_option maxRecDepth 100000 in
theorem lifted (os : Os) (started : os.Started) (H : Type) (enc : TypeId × Value → H) :
  ReturnsInHanded {} Tryz.checked os 7 .any (fun w args => (Rows.fnExactChangesOfSpec.pre enc Tryz.prog Tryz.f7 Rows.fnExactChangesOfRow.domain false w args ∧ laidMetH Tryz.prog Rows.fnExactChangesOfRow.laid w) ∧ sizedMet enc Tryz.prog Tryz.f7 (OpenSpec.ofChange Rows.fnExactChangesOfSpec) false w args) (Rows.fnExactChangesOfSpec.post enc Tryz.prog Tryz.f7 false true false false) := by
 refine returnsInHanded_of_change_and (C := Tryz.checked) (X := fun w _ => laidMetH Tryz.prog Rows.fnExactChangesOfRow.laid w) (fun _ _ _ hh h => h.of_heap hh) own started (by kernel_rfl) Tryz.func7
  (ChangeSpec.witness_shaped (enc := enc) (C := Tryz.checked) (os := os) (X := fun w _ => laidMetH Tryz.prog Rows.fnExactChangesOfRow.laid w) false (World.laidAll Tryz.prog os Rows.fnExactChangesOfRow.laid) #[.slice none 0 0, .int .i64 0, .int .i64 0] 8 (World.laidAll_os _ _ _)
   (World.shaped_of_ZipB (by kernel_rfl) (by kernel_rfl)) (by kernel_rfl) (by kernel_rfl) (by kernel_rfl)
   (by rw [MakeChecks.laidMetH_plain _ _ _ (by kernel_rfl)]; exact laidMet_laidAll _ (by kernel_rfl) (by kernel_rfl))) ?_
 intro W base args ds gs before hval0 hW hcnd hsz0 hLaid _
 have hval : ∀ (j : Nat) t v, Tryz.f7.params[j]? = some t → args[j]? = some v → Value.okWide Tryz.prog W .any base t v := hval0
 have hW' := hW
 obtain ⟨p, q, hA0, hV, rfl, hfz, hnd⟩ := hW
 have hA : DataW.TrodAll enc Tryz.prog W 0 (fun _ => true) true Tryz.f7.params.toList args.toList ds p := hA0
 rw [Tryz.params7] at hA hval
 obtain ⟨v0, vs0, d0, ds0, p0, q0, hargs, rfl, rfl, h0, r0⟩ := trodAll_cons hA
 obtain ⟨v1, vs1, d1, ds1, p1, q1, rfl, rfl, rfl, h1, r1⟩ := trodAll_cons r0
 obtain ⟨v2, vs2, d2, ds2, p2, q2, rfl, rfl, rfl, h2, r2⟩ := trodAll_cons r1
 obtain ⟨rfl, rfl, rfl⟩ := trodAll_nil r2
 obtain rfl : args = #[v0, v1, v2] := by cases args; simp_all
 obtain ⟨rfl, rfl⟩ := trodVars_none hV
 obtain ⟨A0, n0, c0, rfl⟩ := okWide_slice Tryz.underlying22 (hval 0 22 v0 rfl rfl)
 have k0 := h0
 have lt0 : ∀ x ∈ p0, x.block < W.heap.size := by obtain ⟨m, hm⟩ := k0; exact DataW.trod_lt m _ _ _ hm
 obtain ⟨z0, hC0, hl0, hm0, hq0⟩ := kd_structs k42 (fun z => ((Lit.int .i64 z.f0).wf = true) ∧ (z.f1.size ≤ 9223372036854775807)) Tryz.underlying22 Tryz.underlying42 (by kernel_rfl) (by kernel_rfl) rfl (fun v hv => by
  obtain ⟨n_0, y_0, t_0⟩ := hv 0 _ rfl
  obtain ⟨x_0, e_0, _, g_0⟩ := DataW.trod_int Tryz.underlying3 t_0
  injection e_0 with e_0
  obtain ⟨n_1, y_1, t_1⟩ := hv 1 _ rfl
  obtain ⟨x_1, e_1, _, g_1⟩ := DataW.trod_string Tryz.underlying9 t_1
  injection e_1 with e_1
  refine ⟨⟨x_0, x_1⟩, ⟨g_0, g_1⟩, ?_⟩
  show k42.K W _ [v 0, v 1]
  rw [e_0, e_1]
  exact k42_mk W _) h0
 have hL0 : z0.length = n0 := hC0.1
 subst hL0
 obtain ⟨a1, rfl, rfl, rfl, w1⟩ := open_int Tryz.underlying3 (hval 1 3 v1 rfl rfl) h1
 obtain ⟨a2, rfl, rfl, rfl, w2⟩ := open_int Tryz.underlying3 (hval 2 3 v2 rfl rfl) h2
 clear hA0 hval0 hsz0
 obtain ⟨k, hk⟩ := Pure.FnExactChangesOf z0 a1 a2 (by simp only [maxLen] at hm0; omega) (by simpa only [maxLen] using hq0) w1 w2
 refine (laws_FnExactChangesOf.calls k A0 c0 z0 a1 a2 true W hC0 hl0 (gt_of hLaid) hk rfl).mono fun e W' ⟨he, bel0⟩ => ?_
 have bel : Below W.heap.size W W' := bel0
 subst he
 exact ⟨_, rfl, _, _, _, [], _, [], hW', trodAll_mk1 (shut_bool Tryz.underlying4 _), (trodAll_cons_mk (Below.trod laidOut (by kernel_rfl) (of_decide_eq_true (by kernel_rfl)) k0 bel lt0) (trodAll_cons_mk (shut_int Tryz.underlying3 w1) (trodAll_cons_mk (shut_int Tryz.underlying3 w2) trodAll_mk0))), rfl, bel.frame _, fun h => by cases h⟩
theorem over : Rows.fnExactChangesOfRow.holds Tryz.pinned (OpenSpec.ofChange Rows.fnExactChangesOfSpec) :=
 OpenClaim.holds_of_wide 7 Tryz.f7 rfl rfl rfl rfl rfl rfl rfl ⟨rfl, rfl, rfl, rfl, rfl⟩ rfl rfl rfl rfl rfl (by kernel_rfl) Tryz.func7 (by kernel_rfl)
  (of_decide_eq_true (by kernel_rfl)) (by unfold Func.isWrapper; first | (rw [if_pos (by decide +kernel)]; kernel_rfl) | (rw [if_neg (by decide +kernel)]; exact ⟨rfl, rfl⟩))
  (fun os started H enc _ => lifted os started H enc)
set_option maxRecDepth 100000 in
theorem proved : Rows.FnExactChangesOfCardSaid :=
 Claim7.holds_tied_plain_at .later [] [.data, .data, .data, .data, .pinned] true (true, "6bafa674d9bbaf66390e378ed8ad8154300254183b165777504914f0dab43849") false over (fun _ h => by cases h) (by kernel_rfl) (fun _ h => by cases h) fnExactChangesOf_row_tie rfl ⟨rfl, rfl⟩ (by kernel_rfl) rfl
  (fun f fn hf hfn => by
   obtain rfl : f = 7 := Option.some.inj ((show Tryz.prog.funcNamed "loop.example/proofarchive/laws.FnExactChangesOf" = some 7 by kernel_rfl).symm.trans hf) |>.symm
   obtain rfl : fn = Tryz.f7 := (Option.some.inj (Tryz.func7.symm.trans hfn)).symm
   exact ⟨by kernel_rfl, fun j t ht => by
    rw [Tryz.params7] at ht
    have hm : t ∈ [22, 3, 3] := by simpa using Array.mem_of_getElem? ht
    have hall : ([22, 3, 3].all fun u => !Tryz.prog.wantsStandIn u) = true := by kernel_rfl
    exact (show Tryz.prog.wantsStandIn t = false by simpa using List.all_eq_true.1 hall t hm)⟩)
  (by kernel_rfl)
#print axioms proved
end Go.Proofs.YtjgbidklkhohfaaGreatDoor.fnExactChangesOf
namespace Go.Proofs.YtjgbidklkhohfaaGreatDoor
/-- The card, under a short name, for the claim. -/
theorem fnExactChangesOf_holds : Rows.FnExactChangesOfCardSaid := fnExactChangesOf.proved
end Go.Proofs.YtjgbidklkhohfaaGreatDoor
