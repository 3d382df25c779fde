/- The row of FnJoinStores: for every input the law returns true, and its arguments read afterwards as they read before. No condition beyond the row's own. -/
import Derived.Test.YtcbmkonigclceaaRows
import Derived.Test.YtcbmkonigclceaaStmtFnJoinStores
import Derived.Test.YtcbmkonigclceaaPureFnJoinStores
import Derived.Test.YtcbmkonigclceaaOpen
import Derived.WalkKit
import Derived.ProofKit
import Derived.OpenShut
import Derived.ShutString
import Derived.ChangeOld
import Derived.Below
import Derived.SizedLaws
import Derived.Lib.SmallJoins
namespace Go.Proofs.Ytcbmkonigclceaa.fnJoinStores
open Go.ChangeShapes Go.WideShapes Go.ChangeAt Go.RowKit Go.Joins Go.Deep Go.Proofs.Ytcbmkonigclceaa.Open Go.Proofs.YtcbmkonigclceaaW.PrintWords Go.Proofs.Ytcbmkonigclceaa.P
open Go.ChangeMaps (open_string shut_string)
set_option linter.unusedVariables false
theorem own : ownKnob Try.prog.godebug = none := by kernel_rfl
theorem laidOut : laidOutB Try.prog = true := by kernel_rfl
set_option maxRecDepth 100000 in
theorem lifted (os : Os) (started : os.Started) (H : Type) (enc : TypeId × Value → H) :
    ReturnsInHanded {} Try.checked os 15 .any (Rows.fnJoinStoresSpec.pre6 enc Try.prog Try.f15 Rows.fnJoinStoresRow.domain false) (Rows.fnJoinStoresSpec.post enc Try.prog Try.f15 false true false false) := by
  refine returnsInHanded_of_change_sized (C := Try.checked) own started (by kernel_rfl) Try.func15
    (ChangeSpec.witness6 (enc := enc) (C := Try.checked) false ⟨#[], #[.slice none 0 0], []⟩ 8 (by kernel_rfl) (by kernel_rfl) (by kernel_rfl) (by kernel_rfl)) ?_
  intro W base args ds gs before hval0 hW hcnd hsz0 _
  have hval : ∀ (j : Nat) t v, Try.f15.params[j]? = some t → args[j]? = some v → Value.okWide Try.prog W .any base t v := hval0
  have hW' := hW
  obtain ⟨p, q, hA0, hV, rfl, hfz, hnd⟩ := hW
  have hA : DataW.TrodAll enc Try.prog W 0 (fun _ => true) true Try.f15.params.toList args.toList ds p := hA0
  rw [Try.params15] at hA hval
  obtain ⟨v0, vs0, d0, ds0, p0, q0, hargs, rfl, rfl, h0, r0⟩ := trodAll_cons hA
  obtain ⟨rfl, rfl, rfl⟩ := trodAll_nil r0
  obtain rfl : args = #[v0] := by cases args; simp_all
  obtain ⟨rfl, rfl⟩ := trodVars_none hV
  obtain ⟨A0, n0, c0, rfl⟩ := okWide_slice Try.underlying34 (hval 0 34 v0 rfl rfl)
  have k0 := h0
  have lt0 : ∀ x ∈ p0, x.block < W.heap.size := by obtain ⟨m, hm⟩ := k0; exact DataW.trod_lt m _ _ _ hm
  obtain ⟨z0, hC0, hl0, hm0, hq0⟩ := kd_ints Try.underlying34 Try.underlying5 (by kernel_rfl) h0
  have hL0 : z0.length = n0 := hC0.1
  subst hL0
  clear hA0 hval0 hsz0
  obtain ⟨k, hk⟩ := Pure.FnJoinStores z0 (by simp only [maxLen] at hm0; omega) (by simpa only [maxLen] using hq0)
  refine (laws_FnJoinStores.calls k A0 c0 z0 true W hC0 hl0 hk rfl).mono fun e W' ⟨he, bel0⟩ => ?_
  have bel : Below W.heap.size W W' := bel0
  subst he
  exact ⟨_, rfl, _, _, _, [], _, [], hW', trodAll_mk1 (shut_bool Try.underlying4 _), (trodAll_cons_mk (Below.trod laidOut (by kernel_rfl) (of_decide_eq_true (by kernel_rfl)) k0 bel lt0) trodAll_mk0), rfl, bel.frame _, fun h => by cases h⟩
theorem over : Rows.fnJoinStoresRow.holds Try.pinned (OpenSpec.ofChange Rows.fnJoinStoresSpec) :=
  OpenClaim.holds_of_wide 15 Try.f15 rfl rfl rfl rfl rfl rfl rfl ⟨rfl, rfl, rfl, rfl, rfl⟩ rfl rfl rfl rfl rfl (by kernel_rfl) Try.func15 (by kernel_rfl)
    (of_decide_eq_true (by kernel_rfl)) (by unfold Func.isWrapper; first | (rw [if_pos (by decide +kernel)]; kernel_rfl) | (rw [if_neg (by decide +kernel)]; exact ⟨rfl, rfl⟩))
    (fun os started H enc _ => lifted os started H enc)
theorem proved : Rows.FnJoinStoresSaid := over
#print axioms proved
end Go.Proofs.Ytcbmkonigclceaa.fnJoinStores
namespace Go.Proofs.Ytcbmkonigclceaa
/-- The row, under a short name, for the claim. -/
theorem fnJoinStores_holds : Rows.FnJoinStoresSaid := fnJoinStores.proved
end Go.Proofs.Ytcbmkonigclceaa
