/- The pure statement of FnPutText: proved. -/
import Derived.Test.YtcbmkonigclceaaStmtFnPutText
import Derived.Test.YtcbmkonigclceaaDrawT
import Derived.Test.YtcbmkonigclceaaSamePieces
namespace Go.Proofs.Ytcbmkonigclceaa.Pure
open Go.RowKit Go.Proofs.Ytcbmkonigclceaa.P Go.Proofs.Ytcbmkonigclceaa.EvK Go.Proofs.Ytcbmkonigclceaa.Mod Go.Proofs.YtcbmkonigclceaaW.PrintWords
theorem putT_no {l : List S65} {s : ByteArray} (h : ¬ (putT l s).2.2 = true) : (putT l s).2.1 = -1 ∧ ((putT l s).1 = l ∨ (putT l s).1 = []) := by
 unfold putT at h ⊢
 by_cases h1 : storeValid l = true
 case neg => rw [if_neg h1]; exact ⟨rfl, Or.inr rfl⟩
 rw [if_pos h1] at h ⊢
 by_cases h2 : textValid s = true
 case neg => rw [if_neg h2]; exact ⟨rfl, Or.inl rfl⟩
 rw [if_pos h2] at h ⊢
 by_cases h3 : hasP l (printOf s)
 ·rw [if_pos h3] at h ⊢
  by_cases h4 : (l.getD (posP l (printOf s)) z65).f1 = s
  ·rw [if_pos h4] at h; simp at h
  ·rw [if_neg h4]; exact ⟨rfl, Or.inl rfl⟩
 ·rw [if_neg h3] at h ⊢
  by_cases h4 : l.length = 40
  ·rw [if_pos h4]; exact ⟨rfl, Or.inl rfl⟩
  ·rw [if_neg h4] at h; simp at h
theorem putT_len (l : List S65) (s : ByteArray) : (putT l s).1.length ≤ 40 := (storeValid_iff.1 (putT_valid l s)).1
theorem FnPutText : laws_FnPutText.Stmt := by
 intro l hl hq
 have hb : ∀ x ∈ l, 0 ≤ x ∧ x ≤ 255 := fun x hx => wf_u8 (hq x hx)
 refine EvP_rounds (g := fun k => laws_FnPutText.f k l) ?_
 unfold laws_FnPutText.f
 rw [EvP_ite]
 by_cases h0 : (l.length : Int) > 1048576
 ·rw [if_pos h0]; exact EvP_some.mpr rfl
 rw [if_neg h0]
 refine EvP_bp (drawPut_p l hb) ?_
 rintro ⟨s, t⟩ ⟨⟨hs1, hs2⟩, ht⟩
 dsimp only at hs1 hs2 ht ⊢
 have hsz : StoreSized s := ⟨by omega, fun v hv => by have := hs2 v hv; omega⟩
 have h40 := putT_len s t
 have hvx := putT_valid s t
 have hzx := storeValid_sized hvx
 have hok := @putT_ok s t
 have hno := @putT_no s t
 have hag := @putT_again (putT s t).1 t hvx
 rw [EvP_bd (impl_put_ev s t hsz (by omega) (by omega)), EvP_bd (spec_put_ev s t hsz (by omega) (by omega)), EvP_bd (samePieces_ev _ _ (by omega)), EvP_pos (eqb_self _), EvP_pos rfl]
 generalize putT s t = y at *
 obtain ⟨x, n, ok⟩ := y
 dsimp only at h40 hvx hzx hok hno hag ⊢
 have e0 : (ok != ok) = false := by simp
 rw [e0]
 refine EvP_succ.mpr ?_
 simp only [laws_FnPutText.j0]
 rw [EvP_neg (by simp), EvP_ite]
 by_cases h : ok = true
 case neg =>
  obtain ⟨g1, g2⟩ := hno h
  rw [if_neg h, EvP_pos g1, EvP_bd (samePieces_ev x s (by omega)), EvP_ite]
  split
  ·rw [EvP_bd alive_ev]; exact EvP_some.mpr rfl
  ·rename_i g
   have : x = [] := g2.resolve_left (fun e => g (eqb_iff.2 e))
   rw [EvP_pos (by rw [this]; rfl), EvP_bd alive_ev]
   exact EvP_some.mpr rfl
 obtain ⟨v1, v2, -, v4, v5, v6, v7, -⟩ := hok h
 subst v7
 have hg := hag v2 v4
 rw [if_pos h, EvP_bd (impl_get_ev x _ hzx), getT_mem hvx v4, EvP_bd (impl_put_ev x t hzx (by omega) (by omega)), hg]
 have loop : ∀ d i, i + d = s.length → EvP (fun k => laws_FnPutText.l0 k s t x (printOf t) t true x (printOf t) true (i : Int)) (· = true) := by
  intro d
  induction d with
  | zero =>
   intro i hi
   refine EvP_succ.mpr ?_
   simp only [laws_FnPutText.l0]
   rw [EvP_neg (by omega), EvP_bd (impl_store_ev x hzx), EvP_pos hvx, EvP_pos trivial, EvP_pos trivial, EvP_bd (impl_print_ev t (by omega)), EvP_pos rfl, EvP_pos trivial, EvP_pos trivial, EvP_bd (samePieces_ev x x (by omega)), EvP_pos (eqb_self _)]
   refine EvP_some.mpr (decide_eq_true ?_)
   rw [w64 (by omega) (by omega)]
   omega
  | succ d ih =>
   intro i hi
   have hm : s.getD i z65 ∈ s := by rw [pieceAt s i (by omega)]; exact List.getElem_mem _
   refine EvP_succ.mpr ?_
   simp only [laws_FnPutText.l0, rdPiece, w64s i (by omega)]
   rw [EvP_pos (by omega), EvP_pos (by omega), EvP_bd (impl_get_ev x _ hzx), getT_mem hvx (v5 _ hm), EvP_pos rfl, EvP_pos rfl]
   exact ih (i + 1) (by omega)
 exact loop s.length 0 (by omega)
end Go.Proofs.Ytcbmkonigclceaa.Pure
