/- The pure statement of FnAddVersion: proved. -/
import Derived.Test.YtbjfbmoeboagaaaStmtFnAddVersion
import Derived.Test.YtbjfbmoeboagaaaLineMore
import Derived.Test.YtbjfbmoeboagaaaAddV
import Derived.Test.YtbjfbmoeboagaaaSameVers
import Derived.Test.YtbjfbmoeboagaaaSameInts
namespace Go.Proofs.Ytbjfbmoeboagaaa.Pure
open Go.RowKit Go.Proofs.Ytbjfbmoeboagaaa.P Go.Proofs.Ytbjfbmoeboagaaa.EvK Go.Proofs.Ytbjfbmoeboagaaa.Mod Go.Proofs.YtbjfbmoeboagaaaW.PrintWords
theorem drawAdd_p (l : List Int) (hl : ∀ x ∈ l, 0 ≤ x ∧ x ≤ 255) : EvP (fun k => spec_DrawAddVersion.f k l) (fun r => DrawnV r.1 ∧ (-100 ≤ r.2.2.1 ∧ r.2.2.1 ≤ 100) ∧ r.2.2.2.size ≤ 9) := by
  obtain ⟨bs, ho, h0⟩ := open_ev l hl
  unfold spec_DrawAddVersion.f
  simp only [ho, Option.bind_some]
  refine EvP_bp (versions_p h0 (by omega) 9 (by omega)) ?_
  rintro ⟨x, q⟩ ⟨h, h1, h2⟩
  dsimp only at h h1 h2 ⊢
  have hlen := h.len
  rw [w64 (x := (x.length : Int) + 2) (by omega) (by omega)]
  refine EvP_bp (pick_p (h0.to (q := q) (by omega) (by omega)) _ (by omega)) ?_
  rintro ⟨v, q1⟩ ⟨rfl, r1, -⟩
  have r1 := r1 (by omega)
  dsimp only at r1 ⊢
  refine EvP_bp (print_p (h0.to (q := q + 1) (by omega) (by omega)) (by omega) 12 (by omega)) ?_
  rintro ⟨a, q2⟩ ⟨g1, g2⟩
  dsimp only at g1 g2 ⊢
  refine EvP_bp (word_p (h0.to (q := q2) (by omega) (by omega)) (by omega) 12 (by omega)) ?_
  rintro ⟨s, q3⟩ ⟨hs, g3, g4⟩
  dsimp only at hs
  refine EvP_some.mpr ⟨h, ?_, hs⟩
  dsimp only
  rw [w64 (x := v - 1) (by omega) (by omega)]
  omega
theorem bef_snoc (x : List S25) (v : S25) (n : Int) (h0 : 0 ≤ n) (h1 : n < x.length) : bef (x ++ [v]) n = bef x n := by
  unfold bef
  simp only [List.getD_eq_getElem?_getD]
  rw [List.getElem?_append_left (by omega)]
theorem lineL_snoc {x : List S25} (h : versionsValid x = true) (v : S25) : ∀ (f : Nat) (n : Int), n < x.length → lineL (x ++ [v]) f n = lineL x f n := by
  intro f
  induction f with
  | zero => intro n hn; rfl
  | succ f ih =>
    intro n hn
    unfold lineL
    by_cases h0 : 0 ≤ n
    · have hb := bef_in h h0 hn
      rw [if_pos h0, if_pos h0, bef_snoc x v n h0 hn, ih _ (by omega)]
    · rw [if_neg h0, if_neg h0]
theorem FnAddVersion : laws_FnAddVersion.Stmt := by
  intro l hl hq
  refine Ev.rounds (g := fun k => laws_FnAddVersion.f k l) ?_
  obtain ⟨⟨x, a, b, s⟩, hd, hx, hb, hss⟩ := drawAdd_p l (fun z h => wf_u8 (hq z h))
  dsimp only at hx hb hss
  have hs := hx.sized
  have hlen := hx.len
  unfold laws_FnAddVersion.f
  rw [Ev_ite]
  split
  · exact Ev_some.mpr rfl
  rw [Ev_bd hd]
  dsimp only
  have hrl := addV_len x ⟨a, b, s⟩
  rw [Ev_bd (impl_addV_ev x hs (by omega) a b s (by omega)), Ev_bd (spec_addV_ev x hs (by omega) a b s (by omega)), Ev_bd (sameVersions_ev _ _ (by omega)), Ev_pos (eqb_self _)]
  rw [show ((addV x ⟨a, b, s⟩).2 != (addV x ⟨a, b, s⟩).2) = false by simp]
  refine Ev_succ.mpr ?_
  simp only [laws_FnAddVersion.j0]
  rw [Ev_neg (by simp), Ev_ite]
  have halive : Ev (fun k => (laws_alive.f k).bind fun t => some t) true := (Ev_bd alive_ev).mpr (Ev_some.mpr rfl)
  unfold addV
  by_cases h : versionsValid x = true
  · rw [if_pos h]
    by_cases h2 : versionsValid (x ++ [⟨a, b, s⟩]) = true
    · rw [if_pos h2, if_pos rfl]
      dsimp only
      have hs2 := versionsValid_sized h2
      have hn : ((x ++ [(⟨a, b, s⟩ : S25)]).length : Int) = (x.length : Int) + 1 := by simp
      have e0 : bef (x ++ [⟨a, b, s⟩]) (x.length : Int) = b := by
        unfold bef
        simp [List.getD_eq_getElem?_getD]
      have hbb := bef_in h2 (n := (x.length : Int)) (by omega) (by omega)
      rw [e0] at hbb
      have e1 : lineOf (x ++ [⟨a, b, s⟩]) (x.length : Int) = (x.length : Int) :: lineOf x b := by
        rw [lineOf_head h2 (by omega) (by omega), e0]
        rw [show (x ++ [(⟨a, b, s⟩ : S25)]).length = x.length + 1 by simp, lineL_snoc h _ _ _ (by omega)]
        by_cases hb0 : 0 ≤ b
        · rw [lineOf_eq h hb0 (by omega)]
        · unfold lineOf
          rw [if_neg (by omega), lineL, if_neg hb0]
      have lb := lineOf_len x b
      rw [Ev_bd (impl_line_ev _ hs2 _ (by omega)), Ev_bd (impl_line_ev x hs b (by omega)), Ev_bd (impl_vers_ev _ hs2), Ev_pos h2, e1]
      rw [w64 (by omega) (by omega), Ev_pos (by simp), Ev_pos (by simp only [List.length_cons]; omega), Ev_pos (show rd ((x.length : Int) :: lineOf x b) 0 = (x.length : Int) from rfl), Ev_pos (by simp only [List.length_cons]; omega), Ev_bd (sameInts_ev _ _ (by simp only [List.drop_succ_cons, List.drop_zero]; omega))]
      exact Ev_some.mpr (by simp [eqb_self])
    · rw [if_neg h2, if_neg (by simp)]
      dsimp only
      rw [Ev_bd (sameVersions_ev x x (by omega)), Ev_pos (eqb_self _)]
      exact halive
  · rw [if_neg h, if_neg (by simp)]
    dsimp only
    rw [Ev_bd (sameVersions_ev [] x (by simp)), Ev_ite]
    split
    · exact halive
    · rw [Ev_pos (by simp)]
      exact halive
end Go.Proofs.Ytbjfbmoeboagaaa.Pure
