/- What the program's AddVersion comes to. -/
import Derived.Test.YtbjfbmoeboagaaaPx0
import Derived.Test.YtbjfbmoeboagaaaPx11
import Derived.Test.YtbjfbmoeboagaaaPx12
import Derived.Test.YtbjfbmoeboagaaaDrawV
namespace Go.Proofs.Ytbjfbmoeboagaaa.Mod
open Go.RowKit Go.Proofs.Ytbjfbmoeboagaaa.P Go.Proofs.Ytbjfbmoeboagaaa.EvK Go.Proofs.YtbjfbmoeboagaaaW.PrintWords Go.Proofs.YtbjfbmoeboagaaaW.PrintLast
set_option linter.unusedVariables false
set_option linter.unusedSimpArgs false
theorem impl_addV_ev (l : List S25) (hl : VersSized l) (hn : l.length ≤ 1048576) (a b : Int) (s : ByteArray) (hs : s.size ≤ 9223372036854775807) : Ev (fun k => impl_AddVersion.f k l a b s) (addV l ⟨a, b, s⟩) := by
  unfold impl_AddVersion.f addV
  have hc : slices_Clone_Version.f l = some l := by
    unfold slices_Clone_Version.f
    rw [if_pos (by omega)]
  rw [Ev_bd (impl_vers_ev l hl), Ev_ite]
  by_cases h : versionsValid l = true
  · rw [if_pos h, if_pos h]
    have hlen := versionsValid_len h
    rw [Ev_b0 hc]
    simp only [Option.bind_some, List.length_cons, List.length_nil]
    rw [Ev_pos (by omega), Ev_bd (impl_vers_ev _ (sized_snoc hl (by omega) _ hs)), Ev_ite]
    by_cases h2 : versionsValid (l ++ [⟨a, b, s⟩]) = true
    · rw [if_pos h2, if_pos h2]
      exact Ev_some.mpr rfl
    · rw [if_neg h2, if_neg h2, Ev_b0 hc]
      exact Ev_some.mpr rfl
  · rw [if_neg h, if_neg h]
    exact Ev_some.mpr rfl
theorem addV_len (l : List S25) (v : S25) : (addV l v).1.length ≤ 12 := versionsValid_len (addV_valid l v)
end Go.Proofs.Ytbjfbmoeboagaaa.Mod
