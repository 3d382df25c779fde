/- The row of FnExactDropBranch: for every input the law returns true, and its arguments read afterwards as they read before. No condition beyond the row's own. -/
import Derived.Test.YtbjfbmoeboagaaaRows
import Derived.Test.YtbjfbmoeboagaaaStmtFnExactDropBranch
import Derived.Test.YtbjfbmoeboagaaaPureFnExactDropBranch
import Derived.Test.YtbjfbmoeboagaaaOpen
import Derived.WalkKit
import Derived.ProofKit
import Derived.OpenShut
import Derived.ShutString
import Derived.ChangeOld
import Derived.Below
import Derived.SizedLaws
import Derived.Lib.SmallJoins
namespace Go.Proofs.Ytbjfbmoeboagaaa.fnExactDropBranch
open Go.ChangeShapes Go.WideShapes Go.ChangeAt Go.RowKit Go.Joins Go.Deep Go.Proofs.Ytbjfbmoeboagaaa.Open Go.Proofs.YtbjfbmoeboagaaaW.PrintWords Go.Proofs.Ytbjfbmoeboagaaa.P
open Go.ChangeMaps (open_string shut_string)
set_option linter.unusedVariables false
theorem own : ownKnob Try.prog.godebug = none := by kernel_rfl
theorem laidOut : laidOutB Try.prog = true := by kernel_rfl
set_option maxRecDepth 100000 in
theorem lifted (os : Os) (started : os.Started) (H : Type) (enc : TypeId × Value → H) :
    ReturnsInHanded {} Try.checked os 11 .any (Rows.fnExactDropBranchSpec.pre6 enc Try.prog Try.f11 Rows.fnExactDropBranchRow.domain false) (Rows.fnExactDropBranchSpec.post enc Try.prog Try.f11 false true false false) := by
  refine returnsInHanded_of_change_sized (C := Try.checked) own started (by kernel_rfl) Try.func11
    (ChangeSpec.witness6 (enc := enc) (C := Try.checked) false ⟨#[], #[.slice none 0 0, .int .i64 0, .string ByteArray.empty], []⟩ 8 (by kernel_rfl) (by kernel_rfl) (by kernel_rfl) (by kernel_rfl)) ?_
  intro W base args ds gs before hval0 hW hcnd hsz0 _
  have hval : ∀ (j : Nat) t v, Try.f11.params[j]? = some t → args[j]? = some v → Value.okWide Try.prog W .any base t v := hval0
  have hW' := hW
  obtain ⟨p, q, hA0, hV, rfl, hfz, hnd⟩ := hW
  have hA : DataW.TrodAll enc Try.prog W 0 (fun _ => true) true Try.f11.params.toList args.toList ds p := hA0
  rw [Try.params11] at hA hval
  obtain ⟨v0, vs0, d0, ds0, p0, q0, hargs, rfl, rfl, h0, r0⟩ := trodAll_cons hA
  obtain ⟨v1, vs1, d1, ds1, p1, q1, rfl, rfl, rfl, h1, r1⟩ := trodAll_cons r0
  obtain ⟨v2, vs2, d2, ds2, p2, q2, rfl, rfl, rfl, h2, r2⟩ := trodAll_cons r1
  obtain ⟨rfl, rfl, rfl⟩ := trodAll_nil r2
  obtain rfl : args = #[v0, v1, v2] := by cases args; simp_all
  obtain ⟨rfl, rfl⟩ := trodVars_none hV
  obtain ⟨A0, n0, c0, rfl⟩ := okWide_slice Try.underlying37 (hval 0 37 v0 rfl rfl)
  have k0 := h0
  have lt0 : ∀ x ∈ p0, x.block < W.heap.size := by obtain ⟨m, hm⟩ := k0; exact DataW.trod_lt m _ _ _ hm
  obtain ⟨z0, hC0, hl0, hm0, hq0⟩ := kd_structs k69 (fun z => (z.f0.size ≤ 9223372036854775807) ∧ ((Lit.int .i64 z.f1).wf = true)) Try.underlying37 Try.underlying69 (by kernel_rfl) (by kernel_rfl) rfl (fun v hv => by
    obtain ⟨n_0, y_0, t_0⟩ := hv 0 _ rfl
    obtain ⟨x_0, e_0, _, g_0⟩ := DataW.trod_string Try.underlying9 t_0
    injection e_0 with e_0
    obtain ⟨n_1, y_1, t_1⟩ := hv 1 _ rfl
    obtain ⟨x_1, e_1, _, g_1⟩ := DataW.trod_int Try.underlying3 t_1
    injection e_1 with e_1
    refine ⟨⟨x_0, x_1⟩, ⟨g_0, g_1⟩, ?_⟩
    show k69.K W _ [v 0, v 1]
    rw [e_0, e_1]
    exact k69_mk W _) h0
  have hL0 : z0.length = n0 := hC0.1
  subst hL0
  obtain ⟨a1, rfl, rfl, rfl, w1⟩ := open_int Try.underlying3 (hval 1 3 v1 rfl rfl) h1
  obtain ⟨a2, rfl, rfl, rfl, y2⟩ := open_string Try.underlying9 (hval 2 9 v2 rfl rfl) h2
  clear hA0 hval0 hsz0
  obtain ⟨k, hk⟩ := Pure.FnExactDropBranch z0 a1 a2 (by simp only [maxLen] at hm0; omega) (by simpa only [maxLen] using hq0) w1 (by simpa only [maxLen] using y2)
  refine (laws_FnExactDropBranch.calls k A0 c0 z0 a1 a2 true W hC0 hl0 hk).mono fun e W' ⟨he, bel0⟩ => ?_
  have bel : Below W.heap.size W W' := bel0
  subst he
  exact ⟨_, rfl, _, _, _, [], _, [], hW', trodAll_mk1 (shut_bool Try.underlying4 _), (trodAll_cons_mk (Below.trod laidOut (by kernel_rfl) (of_decide_eq_true (by kernel_rfl)) k0 bel lt0) (trodAll_cons_mk (shut_int Try.underlying3 w1) (trodAll_cons_mk (shut_string Try.underlying9 y2) trodAll_mk0))), rfl, bel.frame _, fun h => by cases h⟩
theorem over : Rows.fnExactDropBranchRow.holds Try.pinned (OpenSpec.ofChange Rows.fnExactDropBranchSpec) :=
  OpenClaim.holds_of_wide 11 Try.f11 rfl rfl rfl rfl rfl rfl rfl ⟨rfl, rfl, rfl, rfl, rfl⟩ rfl rfl rfl rfl rfl (by kernel_rfl) Try.func11 (by kernel_rfl)
    (of_decide_eq_true (by kernel_rfl)) (by unfold Func.isWrapper; first | (rw [if_pos (by decide +kernel)]; kernel_rfl) | (rw [if_neg (by decide +kernel)]; exact ⟨rfl, rfl⟩))
    (fun os started H enc _ => lifted os started H enc)
theorem proved : Rows.FnExactDropBranchSaid := over
#print axioms proved
end Go.Proofs.Ytbjfbmoeboagaaa.fnExactDropBranch
namespace Go.Proofs.Ytbjfbmoeboagaaa
/-- The row, under a short name, for the claim. -/
theorem fnExactDropBranch_holds : Rows.FnExactDropBranchSaid := fnExactDropBranch.proved
end Go.Proofs.Ytbjfbmoeboagaaa
