-- The functions of the seat as plain Lean functions, made by the kit's print.py for all laws at once. Not trusted: Lean checks it.
import Derived.Test.YtbjfbmoeboagaaaPx0
namespace Go.Proofs.Ytbjfbmoeboagaaa.P
open Go.RowKit Go.Proofs.YtbjfbmoeboagaaaW.PrintWords Go.Proofs.YtbjfbmoeboagaaaW.PrintLast Go.Proofs.YtbjfbmoeboagaaaW.PrintMore
attribute [local go_sem] max2_int min2_int max_two min_two max_three min_three max_four min_four   -- for this text's walks alone
set_option linter.unusedVariables false
set_option linter.unusedSimpArgs false

/-! ### slices_Clone_Branch: function 77 (by a text of my own) -/
def slices_Clone_Branch.f (l0 : List (S64)) : Option (List (S64)) := if l0.length * 24 ≤ 140737488355328 then some l0 else none
set_option maxHeartbeats 8000000 in
set_option maxRecDepth 100000 in
theorem slices_Clone_Branch.calls (A0 : Option Addr) (c0 : Nat) (l0 : List (S64)) (r : List (S64)) (w : World) (hr0 : Kd.C k64 w A0 l0.length l0) (hc0 : l0.length ≤ c0) (h : slices_Clone_Branch.f l0 = some r) :
    Calls Try.prog 77 #[.slice A0 l0.length c0] w fun e w' => ∃ v0_ : Value, e = .returned (v0_) ∧ Kd.R k64 64 w' w.heap.size (fun _ => True) v0_ r ∧ Below w.heap.size w w' := by
  unfold slices_Clone_Branch.f at h
  by_cases hbig : l0.length * 24 ≤ 140737488355328
  case neg => rw [if_neg hbig] at h; cases h
  rw [if_pos hbig] at h
  obtain rfl := Option.some.inj h
  clear h
  have q : ∀ (w : World) (a : Option Addr) (n c n' c' : Nat), (binOp .eql 40 (.slice a n c) (.slice none n' c')).run Try.prog w = .ok (.bool a.isNone) w := fun w a n c n' c' => Lib.run_eql_slice_nil w _ _ a n c n' c' Try.underlying40
  cases A0 with
  | none =>
    obtain ⟨rfl, _⟩ := KdW.nil_of_none hr0
    clear hr0
    go_enter Try.func77, Try.ntmps77
    go_wp2
    go_ret
    exact ⟨_, rfl, Kd.R_nil _ _ _ _ _, Below.refl _ _⟩
  | some ad =>
    obtain ⟨inner, hreps, hcell⟩ := ReadsRow.inner_ hr0
    have hn1 := hr0.2.1
    have hl : inner.length = l0.length * 2 := hreps.1
    have h1 : ∀ u ∈ inner, u.oneCell' = true := KdW.reps_one hreps (by decide) (fun _ _ h => Kd.K_one k64 h)
    have A : Aside0 (∀ j u, inner[j]? = some u → w.cell? (ad.add j) = some u) := ⟨hcell⟩
    have RP : Aside0 (Reps (Kd.K k64 w) (Kd.sz k64) l0 inner) := ⟨hreps⟩
    clear hcell hreps hr0
    obtain ⟨i0, hi, hz0, hz1, hz2⟩ := info_parts info64
    go_enter Try.func77, Try.ntmps77
    go_wp2_with (at_builtin; refine wpList_append_own _ rfl _ _ 40 rfl w.heap.size 64 i0 _ 2 24 Try.underlying40 hi hz0 hz1 hz2 rfl (by decide) _ _ _ rfl (World.ownsRow_made w #[] 0 (Nat.le_refl _) (Nat.zero_le _) (by simp)) ad l0.length c0 inner rfl ?qc1 ?qc2 ?qc3 ?qc4 ?qc5 ?qc6 ?_)
    case qc1 => exact hl
    case qc2 => exact fun j u hj => Lib.cell?_alloc_some _ (A.out j u hj)
    case qc3 => exact h1
    case qc4 => rw [Nat.zero_add]; simpa [maxLen] using hn1
    case qc5 => rw [Nat.zero_add]; exact hbig
    case qc6 => simp
    intro v' w1 hown hgrow hnil
    go_wp2
    go_ret
    have hb : Below w.heap.size w w1 := ((Below.refl _ w).alloc (Nat.le_refl _) _).grown hgrow (by simp) (by intro k hk; simp [Value.ownBlock] at hk; omega)
    exact ⟨v', rfl, ⟨fun _ _ => trivial, inner, by exact hown, RP.out.imp_ (fun p c hp => hp)⟩, hb⟩

end Go.Proofs.Ytbjfbmoeboagaaa.P
