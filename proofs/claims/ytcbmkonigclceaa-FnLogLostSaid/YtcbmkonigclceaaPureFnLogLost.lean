/- The pure statement of FnLogLost: proved. -/
import Derived.Test.YtcbmkonigclceaaStmtFnLogLost
import Derived.Test.YtcbmkonigclceaaDone
namespace Go.Proofs.Ytcbmkonigclceaa.Pure
open Go.RowKit Go.Proofs.Ytcbmkonigclceaa.P Go.Proofs.Ytcbmkonigclceaa.EvK Go.Proofs.Ytcbmkonigclceaa.Mod Go.Proofs.YtcbmkonigclceaaW.PrintWords
theorem drawLogLost_p (l : List Int) (hl : ∀ x ∈ l, 0 ≤ x ∧ x ≤ 255) : EvP (fun k => spec_DrawLogLost.f k l) (fun r => DrawnL r) := by
  obtain ⟨bs, ho, h0⟩ := open_ev l hl
  unfold spec_DrawLogLost.f
  simp only [ho, Option.bind_some]
  refine EvP_bp (log_p h0 (by omega) 9 (by omega)) ?_
  rintro ⟨x, q⟩ ⟨h, h1, h2⟩
  exact EvP_some.mpr h
theorem FnLogLost : laws_FnLogLost.Stmt := by
  intro l hl hq
  refine Ev.rounds (g := fun k => laws_FnLogLost.f k l) ?_
  obtain ⟨x, hd, hx⟩ := drawLogLost_p l (fun z h => wf_u8 (hq z h))
  have hs := hx.sized
  have hlen := hx.len
  have hL := logDone_len x
  have ho := ones_le x
  unfold laws_FnLogLost.f
  rw [Ev_ite]
  split
  · exact Ev_some.mpr rfl
  rw [Ev_bd hd, Ev_bd (impl_lost_ev x hs), Ev_bd (spec_lost_ev x hs), Ev_pos rfl, Ev_ite]
  unfold logLost
  by_cases h : logValid x = true
  · rw [if_pos h, if_neg (by omega)]
    have key : ∀ n i (c : Nat), i + n = x.length → c + ones (x.drop i) = ones x → Ev (fun k => laws_FnLogLost.l0 k x ((ones x : Int) - ((logDone x).length : Int)) (c : Int) (i : Int)) true := by
      intro n
      induction n with
      | zero =>
        intro i c hi hc
        refine Ev_succ.mpr ?_
        simp only [laws_FnLogLost.l0]
        rw [List.drop_eq_nil_of_le (by omega)] at hc
        have : ones ([] : List S39) = 0 := rfl
        rw [Ev_neg (by omega), Ev_bd (impl_done_ev x hs), w64 (by omega) (by omega)]
        exact Ev_some.mpr (by simp; omega)
      | succ n ih =>
        intro i c hi hc
        refine Ev_succ.mpr ?_
        rw [drop_cons x z39 i (by omega), ones_cons] at hc
        simp only [laws_FnLogLost.l0, rdLogEntry, w64s i (by omega)]
        rw [Ev_pos (by omega), Ev_pos (by omega), Ev_ite]
        by_cases h1 : (x.getD i z39).f0 = 1
        · rw [if_pos h1] at hc ⊢
          rw [w64s c (by omega)]
          exact ih (i + 1) (c + 1) (by omega) (by omega)
        · rw [if_neg h1] at hc ⊢
          exact ih (i + 1) c (by omega) hc
    exact key x.length 0 0 (by omega) (by simp)
  · rw [if_neg h, if_pos (by omega), Ev_pos rfl, Ev_bd alive_ev]
    exact Ev_some.mpr rfl
end Go.Proofs.Ytcbmkonigclceaa.Pure
