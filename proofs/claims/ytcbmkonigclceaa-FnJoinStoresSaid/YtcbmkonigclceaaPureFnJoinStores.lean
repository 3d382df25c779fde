/- The pure statement of FnJoinStores: proved. -/
import Derived.Test.YtcbmkonigclceaaStmtFnJoinStores
import Derived.Test.YtcbmkonigclceaaJoin
import Derived.Test.YtcbmkonigclceaaSamePieces
namespace Go.Proofs.Ytcbmkonigclceaa.Pure
open Go.RowKit Go.Proofs.Ytcbmkonigclceaa.P Go.Proofs.Ytcbmkonigclceaa.EvK Go.Proofs.Ytcbmkonigclceaa.Mod Go.Proofs.YtcbmkonigclceaaW.PrintWords
theorem drawJoin_p (l : List Int) (hl : ∀ x ∈ l, 0 ≤ x ∧ x ≤ 255) : EvP (fun k => spec_DrawJoinStores.f k l) (fun r => DrawnS r.1 ∧ DrawnS r.2) := by
 unfold spec_DrawJoinStores.f
 obtain ⟨b, hb, hok⟩ := open_ev l hl
 rw [EvP_b0 hb]
 refine EvP_bp (store_p hok (by omega) 12 (by omega)) ?_
 rintro ⟨s, root, q⟩ ⟨hs, -, b1, b2⟩
 dsimp only at hs b1 b2 ⊢
 refine EvP_bp (store_p (hok.to b1 (by omega)) (by omega) 12 (by omega)) ?_
 rintro ⟨s2, root2, q2⟩ ⟨hs2, -, -, -⟩
 exact EvP_some.mpr ⟨hs, hs2⟩
theorem FnJoinStores : laws_FnJoinStores.Stmt := by
 intro l hl hq
 have hb : ∀ x ∈ l, 0 ≤ x ∧ x ≤ 255 := fun x hx => wf_u8 (hq x hx)
 refine EvP_rounds (g := fun k => laws_FnJoinStores.f k l) ?_
 unfold laws_FnJoinStores.f
 rw [EvP_ite]
 by_cases h0 : (l.length : Int) > 1048576
 ·rw [if_pos h0]; exact EvP_some.mpr rfl
 rw [if_neg h0]
 refine EvP_bp (drawJoin_p l hb) ?_
 rintro ⟨a, b⟩ ⟨ha, hb⟩
 dsimp only at ha hb ⊢
 have hza := ha.sized
 have hzb := hb.sized
 have hla := ha.len
 have hlb := hb.len
 have hxl := joinS_len a b
 have hok := @joinS_ok a b
 have hno := @joinS_no a b
 have e2 := impl_join_ev b a hzb hza (by omega)
 rw [joinS_comm b a] at e2
 rw [EvP_bd (impl_join_ev a b hza hzb (by omega)), EvP_bd (spec_join_ev a b hza hzb (by omega)), EvP_bd (samePieces_ev _ _ (by first | omega | (dsimp only; omega))), EvP_pos (eqb_self _)]
 generalize joinS a b = y at *
 obtain ⟨x, ok⟩ := y
 dsimp only at hxl hok hno e2 ⊢
 have e0 : (ok != ok) = false := by simp
 rw [e0]
 refine EvP_succ.mpr ?_
 simp only [laws_FnJoinStores.j0]
 rw [EvP_neg (by simp), EvP_bd e2, EvP_neg (by simp), EvP_bd (samePieces_ev _ _ (by first | omega | (dsimp only; omega))), eqb_self]
 refine EvP_succ.mpr ?_
 simp only [laws_FnJoinStores.j1]
 rw [EvP_neg (by simp), EvP_ite]
 by_cases h : ok = true
 case neg =>
  rw [if_neg h, EvP_pos (by rw [hno h]; rfl), EvP_bd alive_ev]
  exact EvP_some.mpr rfl
 obtain ⟨v1, v2, v3, v4⟩ := hok h
 have hzx := storeValid_sized v1
 rw [if_pos h]
 have loop : ∀ d i, i + d = a.length → EvP (fun k => laws_FnJoinStores.l0 k a b x (i : Int)) (· = true) := by
  intro d
  induction d with
  | zero =>
   intro i hi
   refine EvP_succ.mpr ?_
   simp only [laws_FnJoinStores.l0]
   rw [EvP_neg (by omega), EvP_bd (impl_store_ev x hzx), EvP_pos v1, EvP_pos (by omega)]
   refine EvP_some.mpr (decide_eq_true ?_)
   rw [w64 (by omega) (by omega)]
   omega
  | succ d ih =>
   intro i hi
   have hm : a.getD i z65 ∈ a := by rw [pieceAt a i (by omega)]; exact List.getElem_mem _
   refine EvP_succ.mpr ?_
   simp only [laws_FnJoinStores.l0, rdPiece, w64s i (by omega)]
   rw [EvP_pos (by omega), EvP_pos (by omega), EvP_bd (impl_get_ev x _ hzx), getT_mem v1 (v2 _ hm), EvP_pos rfl, EvP_pos rfl]
   exact ih (i + 1) (by omega)
 exact loop a.length 0 (by omega)
end Go.Proofs.Ytcbmkonigclceaa.Pure
