/- What MergePrint comes to. -/
import Derived.Test.YtglfoihpgpdooaaPx1
import Derived.Test.YtglfoihpgpdooaaBase
namespace Go.Proofs.Ytglfoihpgpdooaa.Mod
open Go.RowKit Go.Proofs.Ytglfoihpgpdooaa.P Go.Proofs.Ytglfoihpgpdooaa.EvK Go.Proofs.YtglfoihpgpdooaaW.PrintWords Go.Proofs.YtglfoihpgpdooaaW.PrintLast
set_option linter.unusedVariables false
set_option linter.unusedSimpArgs false
theorem sideValid_eq (a : Int) : impl_sideValid.f a = some (inB a (-1) 16777212) := by
  unfold impl_sideValid.f impl_printValid.f inB
  by_cases h0 : a = -1 <;> by_cases h1 : a ≥ 0 <;> by_cases h2 : a ≤ 16777212 <;> simp [h0, h1, h2] <;> omega
def mergeP (x a b : Int) : Int × Bool :=
  if (inB x (-1) 16777212 && inB a (-1) 16777212 && inB b (-1) 16777212) = true then
    (if a = b ∨ b = x then (a, true) else if a = x then (b, true) else (-2, false))
  else (-2, false)
theorem spec_merge_ev (x a b : Int) : Ev (fun k => spec_MergePrint.f k x a b) (mergeP x a b) := by
  have hj1 : ∀ c r, Ev (fun k => spec_MergePrint.j1 k x a b c) r ↔ (if c = true then (a, true) = r else if a = x then (b, true) = r else (-2, false) = r) := by
    intro c r
    rw [Ev_succ]
    simp only [spec_MergePrint.j1, Ev_ite, Ev_some]
  have hj0 : ∀ c r, Ev (fun k => spec_MergePrint.j0 k x a b c) r ↔ (if c = true then (-2, false) = r else if a = b then (a, true) = r else if b = x then (a, true) = r else if a = x then (b, true) = r else (-2, false) = r) := by
    intro c r
    rw [Ev_succ]
    simp only [spec_MergePrint.j0, Ev_ite, Ev_some, hj1]
    by_cases h1 : a = b <;> by_cases h2 : b = x <;> simp [h1, h2]
  unfold spec_MergePrint.f mergeP
  simp only [l1In_eq, Option.bind_some, Ev_ite, hj0]
  cases inB x (-1) 16777212 <;> cases inB a (-1) 16777212 <;> cases inB b (-1) 16777212 <;> by_cases h1 : a = b <;> by_cases h2 : b = x <;> by_cases h3 : a = x <;> simp [h1, h2, h3] <;> intros <;> assumption
theorem impl_merge_ev (x a b : Int) : Ev (fun k => impl_MergePrint.f k x a b) (mergeP x a b) := by
  have hj1 : ∀ c r, Ev (fun k => impl_MergePrint.j1 k x a b c) r ↔ (if c = true then (a, true) = r else if a = x then (b, true) = r else (-2, false) = r) := by
    intro c r
    rw [Ev_succ]
    simp only [impl_MergePrint.j1, Ev_ite, Ev_some]
  have hj0 : ∀ c r, Ev (fun k => impl_MergePrint.j0 k x a b c) r ↔ (if c = true then (-2, false) = r else if a = b then (a, true) = r else if b = x then (a, true) = r else if a = x then (b, true) = r else (-2, false) = r) := by
    intro c r
    rw [Ev_succ]
    simp only [impl_MergePrint.j0, Ev_ite, Ev_some, hj1]
    by_cases h1 : a = b <;> by_cases h2 : b = x <;> simp [h1, h2]
  unfold impl_MergePrint.f mergeP
  simp only [sideValid_eq, Option.bind_some, Ev_ite, hj0]
  cases inB x (-1) 16777212 <;> cases inB a (-1) 16777212 <;> cases inB b (-1) 16777212 <;> by_cases h1 : a = b <;> by_cases h2 : b = x <;> by_cases h3 : a = x <;> simp [h1, h2, h3] <;> intros <;> assumption
end Go.Proofs.Ytglfoihpgpdooaa.Mod
