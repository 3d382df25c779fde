/- The pure statement of FnLogAdd: proved. -/
import Derived.Test.YtcbmkonigclceaaStmtFnLogAdd
import Derived.Test.YtcbmkonigclceaaDone
import Derived.Test.YtcbmkonigclceaaLogAdd
import Derived.Test.YtcbmkonigclceaaSameLog
namespace Go.Proofs.Ytcbmkonigclceaa.Pure
open Go.RowKit Go.Proofs.Ytcbmkonigclceaa.P Go.Proofs.Ytcbmkonigclceaa.EvK Go.Proofs.Ytcbmkonigclceaa.Mod Go.Proofs.YtcbmkonigclceaaW.PrintWords
theorem drawLogAdd_p (l : List Int) (hl : ∀ x ∈ l, 0 ≤ x ∧ x ≤ 255) : EvP (fun k => spec_DrawLogAdd.f k l) (fun r => DrawnL r.1 ∧ r.2.length ≤ 40 ∧ ∀ t ∈ r.2, t.size ≤ 61) := by
  obtain ⟨bs, ho, h0⟩ := open_ev l hl
  unfold spec_DrawLogAdd.f
  simp only [ho, Option.bind_some]
  refine EvP_bp (log_p h0 (by omega) 9 (by omega)) ?_
  rintro ⟨x, q⟩ ⟨h, h1, h2⟩
  dsimp only at h h1 h2 ⊢
  refine EvP_bp (pick_p (h0.to (q := q) (by omega) (by omega)) 5 (by omega)) ?_
  rintro ⟨v, q1⟩ ⟨rfl, r1, -⟩
  have r1 := r1 (by omega)
  dsimp only at r1 ⊢
  obtain ⟨d, rfl⟩ := Int.eq_ofNat_of_zero_le r1.1
  have loop : ∀ (d : Nat) (ts : List ByteArray) (q : Int), ts.length + d ≤ 10 → (∀ t ∈ ts, t.size ≤ 61) → 0 ≤ q → q + 3 * d + 10 ≤ 1000 → EvP (fun k => spec_DrawLogAdd.l0 k x ts (d : Int) bs q) (fun r => DrawnL r.1 ∧ r.2.length ≤ 40 ∧ ∀ t ∈ r.2, t.size ≤ 61) := by
    intro d
    induction d with
    | zero =>
      intro ts q ht hz h1 h2
      refine EvP_succ.mpr ?_
      simp only [spec_DrawLogAdd.l0]
      rw [EvP_neg (by omega)]
      refine EvP_bp (odd_p (h0.to (q := q) (by omega) (by omega)) 14 (by omega)) ?_
      rintro ⟨o, q1⟩ ⟨g1, g2⟩
      dsimp only
      rw [EvP_ite]
      split
      · rw [EvP_pos (by omega)]
        refine EvP_some.mpr ⟨h, by simp, fun t ht => ?_⟩
        rw [(List.mem_replicate.1 ht).2]
        decide
      · exact EvP_some.mpr ⟨h, by dsimp only; omega, hz⟩
    | succ d ih =>
      intro ts q ht hz h1 h2
      refine EvP_succ.mpr ?_
      simp only [spec_DrawLogAdd.l0]
      rw [EvP_pos (by omega)]
      refine EvP_bp (text_p (h0.to (q := q) (by omega) (by omega)) (by omega) 14 (by omega)) ?_
      rintro ⟨t, q2⟩ ⟨hsz, g1, g2⟩
      dsimp only at hsz g1 g2 ⊢
      rw [EvP_pos (by omega), w64 (x := ((d + 1 : Nat) : Int) - 1) (by omega) (by omega), show ((d + 1 : Nat) : Int) - 1 = (d : Int) by omega]
      refine ih _ _ (by simp; omega) (fun y hy => ?_) (by omega) (by omega)
      rcases List.mem_append.1 hy with hy | hy
      · exact hz y hy
      · rw [List.mem_singleton.1 hy]; exact hsz
  exact loop d [] (q + 1) (by simp; omega) (fun t ht => by simp at ht) (by omega) (by omega)
theorem doneL_ones : ∀ (ts : List ByteArray) (d p : List ByteArray), doneL (d, p, true) (ts.map fun t => (⟨1, t⟩ : S39)) = (d, p ++ ts, true)
  | [], d, p => by simp [doneL]
  | t :: ts, d, p => by
    rw [List.map_cons, doneL_cons]
    have : stepD (d, p, true) ⟨1, t⟩ = (d, p ++ [t], true) := by simp [stepD]
    rw [this, doneL_ones ts]
    simp
theorem doneL_tail (s : DoneS) (ts : List ByteArray) : (doneL s (addTail ts)).1 = s.1 ++ ts := by
  unfold addTail
  rw [List.cons_append, doneL_cons]
  have : stepD s ⟨0, ⟨#[]⟩⟩ = (s.1, [], true) := by simp [stepD]
  rw [this, doneL_append, doneL_ones]
  simp [doneL, stepD]
theorem FnLogAdd : laws_FnLogAdd.Stmt := by
  intro l hl hq
  refine Ev.rounds (g := fun k => laws_FnLogAdd.f k l) ?_
  obtain ⟨⟨x, ts⟩, hd, hx, htl, htz⟩ := drawLogAdd_p l (fun z h => wf_u8 (hq z h))
  dsimp only at hx htl htz
  have hs := hx.sized
  have hlen := hx.len
  have hL := logDone_len x
  have hrl := logAdd_len x ts
  unfold laws_FnLogAdd.f
  rw [Ev_ite]
  split
  · exact Ev_some.mpr rfl
  rw [Ev_bd hd]
  dsimp only
  rw [Ev_bd (impl_logAdd_ev x ts hs (by omega) (by omega) (fun t h => by have := htz t h; omega)), Ev_bd (spec_logAdd_ev x ts hs (by omega) (by omega) (fun t h => by have := htz t h; omega)), Ev_bd (sameLog_ev _ _ (by omega)), Ev_pos (eqb_self _)]
  rw [show ((logAdd x ts).2 != (logAdd x ts).2) = false by simp]
  refine Ev_succ.mpr ?_
  simp only [laws_FnLogAdd.j0]
  rw [Ev_neg (by simp), Ev_ite]
  have halive : Ev (fun k => (laws_alive.f k).bind fun t => some t) true := (Ev_bd alive_ev).mpr (Ev_some.mpr rfl)
  unfold logAdd
  by_cases h : logValid x = true
  · rw [if_pos h]
    by_cases h2 : logValid (x ++ addTail ts) = true
    · rw [if_pos h2, if_pos rfl]
      dsimp only
      have hs2 := logValid_sized h2
      have hn : (x ++ addTail ts).length = x.length + ts.length + 2 := by simp [addTail]; omega
      have e : logDone (x ++ addTail ts) = logDone x ++ ts := by
        unfold logDone
        rw [if_pos h2, if_pos h, doneL_append, doneL_tail]
      simp only [Option.bind_some, List.nil_append, List.length_nil]
      rw [Ev_bd (impl_done_ev x hs), Ev_pos (by omega), Ev_pos (by omega), Ev_bd (impl_log_ev _ hs2), Ev_pos h2, Ev_pos (by omega), Ev_pos (by omega), Int.toNat_natCast]
      rw [show (x ++ addTail ts).take x.length = x by simp, Ev_bd (sameLog_ev _ _ (by omega)), Ev_pos (eqb_self _), Ev_bd (impl_done_ev _ hs2), e, Ev_bd (sameTexts_ev _ _ (by simp; omega)), Ev_pos (eqb_self _), hn]
      rw [w64 (x := (x.length : Int) + _) (by omega) (by omega), w64 (by omega) (by omega)]
      exact Ev_some.mpr (by simp)
    · rw [if_neg h2, if_neg (by simp)]
      dsimp only
      rw [Ev_bd (sameLog_ev x x (by omega)), Ev_pos (eqb_self _)]
      exact halive
  · rw [if_neg h, if_neg (by simp)]
    dsimp only
    rw [Ev_bd (sameLog_ev [] x (by simp)), Ev_ite]
    split
    · exact halive
    · rw [Ev_pos (by simp)]
      exact halive
end Go.Proofs.Ytcbmkonigclceaa.Pure
