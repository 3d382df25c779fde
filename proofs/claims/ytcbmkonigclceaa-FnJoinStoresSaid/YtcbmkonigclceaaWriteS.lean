/- What the reference's writes leave behind: a valid store that holds something. -/
import Derived.Test.YtcbmkonigclceaaPx0
import Derived.Test.YtcbmkonigclceaaPx1
import Derived.Test.YtcbmkonigclceaaPx2
import Derived.Test.YtcbmkonigclceaaPx6
import Derived.Test.YtcbmkonigclceaaPx7
import Derived.Test.YtcbmkonigclceaaPx8
import Derived.Test.YtcbmkonigclceaaWalk
import Derived.Test.YtcbmkonigclceaaPut2
import Derived.Test.YtcbmkonigclceaaEntP
namespace Go.Proofs.Ytcbmkonigclceaa.Mod
open Go.RowKit Go.Proofs.Ytcbmkonigclceaa.P Go.Proofs.Ytcbmkonigclceaa.EvK Go.Proofs.YtcbmkonigclceaaW.PrintWords Go.Proofs.YtcbmkonigclceaaW.PrintLast
set_option linter.all false
theorem fileText_p (c : ByteArray) (hs : c.size ≤ 9223372036854775807) : EvP (fun k => spec_FileText.f k c) (fun r => r.size ≤ 41) := by
 unfold spec_FileText.f
 rw [EvP_bd (spec_content_ev c hs), EvP_ite]
 split
 ·rename_i h
  have := contentValid_size h
  rw [EvP_pos (by omega)]
  refine EvP_some.mpr ?_
  rw [ByteArray.size_append]
  have : (⟨#[102]⟩ : ByteArray).size = 1 := rfl
  omega
 ·exact EvP_some.mpr (by decide)
theorem kind_p (s : ByteArray) (hs : s.size ≤ 4294967200) : EvP (fun k => spec_TextKind.f k s) (fun _ => True) := by
 unfold spec_TextKind.f
 rw [EvP_bd (spec_readFile_ev s (by omega)), EvP_bd (spec_readFolder_ev s hs), EvP_ite]
 split
 ·exact EvP_some.mpr trivial
 ·rw [EvP_ite]
  split <;> exact EvP_some.mpr trivial
theorem insP_ne (l : List S65) (v : S65) : insP l v ≠ [] := by
 intro e
 have := insP_len l v
 rw [e] at this
 simp at this
theorem putT_ne {l : List S65} {s : ByteArray} (h : storeValid l = true) (hne : l ≠ []) : (putT l s).1 ≠ [] := by
 unfold putT
 rw [if_pos h]
 split
 ·split
  ·split <;> exact hne
  ·split
   ·exact hne
   ·exact insP_ne _ _
 ·exact hne
theorem putT_new {s : ByteArray} (h : textValid s = true) : (putT [] s).1 ≠ [] := by
 have hv : storeValid [] = true := by decide
 unfold putT
 rw [if_pos hv, if_pos h, if_neg (fun g => by have := g.1; simp at this), if_neg (by simp)]
 exact insP_ne _ _
def Holds (l : List S65) (r : List S65) : Prop := storeValid r = true ∧ (l ≠ [] → r ≠ [])
theorem put_p {l : List S65} (h : storeValid l = true) (s : ByteArray) (hs : s.size ≤ 9223372036854775807) : Ev (fun k => spec_PutText.f k l s) (putT l s) ∧ Holds l (putT l s).1 := by
 have h40 := (storeValid_iff.1 h).1
 exact ⟨spec_put_ev l s (storeValid_sized h) (by omega) hs, putT_valid l s, fun hne => putT_ne h hne⟩
theorem l10Set_p : ∀ (ns : List ByteArray), (∀ p ∈ ns, p.size ≤ 8) → ∀ (l : List S65) (t leaf : Int), storeValid l = true → EvP (fun k => spec_l10Set.f k l t ns leaf) (fun r => Holds l r.1) := by
 intro ns
 induction ns with
 | nil =>
  intro _ l t leaf h
  refine EvP_succ.mpr ?_
  simp only [spec_l10Set.f]
  rw [EvP_pos (by simp)]
  exact EvP_some.mpr ⟨h, id⟩
 | cons n ns ih =>
  intro hw l t leaf h
  have h40 := (storeValid_iff.1 h).1
  have hn8 := hw n List.mem_cons_self
  have hj2 : ∀ L, entriesValid L = true → ∀ w b, EvP (fun k => spec_l10Set.j2 k l (n :: ns) leaf L w b) (fun r => Holds l r.1) := by
   intro L hL w b
   refine EvP_succ.mpr ?_
   simp only [spec_l10Set.j2]
   rw [EvP_ite]
   split
   ·exact EvP_some.mpr ⟨h, id⟩
   ·rw [EvP_pos (by first | (simp; done) | (simp; omega) | omega)]
    refine EvP_bp (ih (fun p hp => hw p (List.mem_cons_of_mem _ hp)) l w leaf h) ?_
    rintro ⟨s', p', ok⟩ ⟨g1, g2⟩
    dsimp only at g1 g2 ⊢
    rw [EvP_ite]
    split
    ·rw [EvP_pos (by first | (simp; done) | (simp; omega) | omega)]
     have e0 : rdOf ByteArray.empty (n :: ns) 0 = n := rfl
     have h3 := entriesValid_len hL
     have hv := setE_valid hL ⟨n, p'⟩
     rw [e0, EvP_bd (spec_setE_ev L n p' (entriesValid_sized hL) (by omega) (by omega)), EvP_ite]
     split
     ·rw [EvP_bd (spec_folderT_ev _ (entriesValid_sized hv))]
      have hz := folderT_size (setE L ⟨n, p'⟩).1
      obtain ⟨q1, q2, q3⟩ := put_p g1 (folderT (setE L ⟨n, p'⟩).1) (by omega)
      rw [EvP_bd q1]
      exact EvP_some.mpr ⟨q2, fun hne => q3 (g2 hne)⟩
     ·exact EvP_some.mpr ⟨g1, g2⟩
    ·exact EvP_some.mpr ⟨g1, g2⟩
  have key : ∀ L, entriesValid L = true → EvP (fun k => spec_l10Set.j0 k l (n :: ns) leaf L) (fun r => Holds l r.1) := by
   intro L hL
   have h3 := entriesValid_len hL
   refine EvP_succ.mpr ?_
   simp only [spec_l10Set.j0]
   have loop : ∀ d j w, j + d = L.length → EvP (fun k => spec_l10Set.l0 k l (n :: ns) leaf L w (j : Int)) (fun r => Holds l r.1) := by
    intro d
    induction d with
    | zero =>
     intro j w hj
     have hz := getP_size h w
     refine EvP_succ.mpr ?_
     simp only [spec_l10Set.l0]
     rw [EvP_neg (by omega), EvP_bd (spec_l4_ev l w (by omega)), EvP_ite]
     split
     ·rw [EvP_ite]
      split
      ·rw [EvP_ite]
       split
       ·refine EvP_bp (kind_p _ (by omega)) ?_
        intro a _
        exact hj2 L hL _ _
       ·exact hj2 L hL _ _
      ·exact hj2 L hL _ _
     ·exact hj2 L hL _ _
    | succ d ihd =>
     intro j w hj
     refine EvP_succ.mpr ?_
     simp only [spec_l10Set.l0, w64s j (by omega)]
     rw [EvP_pos (by omega), EvP_pos (by omega), EvP_pos (by first | (simp; done) | (simp; omega) | omega), EvP_ite]
     split
     ·exact ihd (j + 1) _ (by omega)
     ·exact ihd (j + 1) _ (by omega)
   exact loop L.length 0 _ (by omega)
  refine EvP_succ.mpr ?_
  simp only [spec_l10Set.f]
  rw [EvP_neg (by first | (simp; done) | (simp; omega) | omega), EvP_ite]
  split
  ·have hz := getP_size h t
   have hfold : readFolder (getP l t).1 = folderP l t := rfl
   rw [EvP_bd (spec_l4_ev l t (by omega)), EvP_bd (spec_readFolder_ev _ (by omega)), hfold, EvP_ite]
   split
   ·exact key _ folderP_valid
   ·exact EvP_some.mpr ⟨h, id⟩
  ·exact key [] entriesValid_nil
theorem emptyRoot_p {l : List S65} (h : storeValid l = true) : EvP (fun k => spec_EmptyRoot.f k l) (fun r => r.1 = (putT l (folderT [])).1) := by
 unfold spec_EmptyRoot.f
 have hz := folderT_size []
 rw [EvP_bd (spec_folderT_ev [] (entriesValid_sized entriesValid_nil)), EvP_bd (put_p h (folderT []) (by omega)).1]
 exact EvP_some.mpr rfl
theorem drpE_valid {l : List S109} (h : entriesValid l = true) (t : ByteArray) : entriesValid (drpE l t).1 = true := by
 have := entriesValid_sub h (dropE_sub l t)
 unfold drpE
 split <;> first | exact this | exact entriesValid_nil
theorem l10Drop_p : ∀ (m : Nat) (ns : List ByteArray), ns.length = m + 1 → (∀ p ∈ ns, p.size ≤ 8) → ∀ (l : List S65) (t : Int), storeValid l = true → EvP (fun k => spec_l10Drop.f k l t ns) (fun r => Holds l r.1) := by
 intro m
 induction m with
 | zero =>
  intro ns hm hw l t h
  exact drop_step hm hw h t (fun w s g => absurd g (by omega))
 | succ m ih =>
  intro ns hm hw l t h
  exact drop_step hm hw h t (fun w s _ => ih (ns.drop 1) (by first | (simp; done) | (simp; omega) | omega) (fun p hp => hw p (List.mem_of_mem_drop hp)) l w h)
where
 drop_step {m : Nat} {ns : List ByteArray} (hm : ns.length = m + 1) (hw : ∀ p ∈ ns, p.size ≤ 8) {l : List S65} (h : storeValid l = true) (t : Int)
   (next : ∀ (w : Int) (s : Unit), 1 < ns.length → EvP (fun k => spec_l10Drop.f k l w (ns.drop 1)) (fun r => Holds l r.1)) : EvP (fun k => spec_l10Drop.f k l t ns) (fun r => Holds l r.1) := by
  have h40 := (storeValid_iff.1 h).1
  have hz := getP_size h t
  have hfold : readFolder (getP l t).1 = folderP l t := rfl
  have hn8 : (rdOf ByteArray.empty ns 0).size ≤ 8 := by
   cases ns with
   | nil => simp at hm
   | cons n ns => exact hw n List.mem_cons_self
  have hj2 : ∀ s R, storeValid s = true → (l ≠ [] → s ≠ []) → entriesValid R = true → EvP (fun k => spec_l10Drop.j2 k s R) (fun r => Holds l r.1) := by
   intro s R hs hne hR
   refine EvP_succ.mpr ?_
   simp only [spec_l10Drop.j2]
   rw [EvP_ite]
   split
   ·exact EvP_some.mpr ⟨hs, hne⟩
   ·have hzR := folderT_size R
    obtain ⟨q1, q2, q3⟩ := put_p hs (folderT R) (by omega)
    rw [EvP_bd (spec_folderT_ev R (entriesValid_sized hR)), EvP_bd q1]
    exact EvP_some.mpr ⟨q2, fun g => q3 (hne g)⟩
  have hj1 : ∀ s L left, storeValid s = true → (l ≠ [] → s ≠ []) → entriesValid L = true → EvP (fun k => spec_l10Drop.j1 k s ns L left) (fun r => Holds l r.1) := by
   intro s L left hs hne hL
   have h3 := entriesValid_len hL
   refine EvP_succ.mpr ?_
   simp only [spec_l10Drop.j1]
   rw [EvP_pos (by omega), EvP_bd (spec_drpE_ev L _ (entriesValid_sized hL) (by omega)), EvP_ite]
   split
   ·rw [EvP_bd (spec_setE_ev L _ left (entriesValid_sized hL) (by omega) (by omega))]
    exact hj2 s _ hs hne (setE_valid hL _)
   ·exact hj2 s _ hs hne (drpE_valid hL _)
  refine EvP_succ.mpr ?_
  simp only [spec_l10Drop.f]
  rw [EvP_bd (spec_l4_ev l t (by omega)), EvP_bd (spec_readFolder_ev _ (by omega)), hfold]
  have hL : entriesValid (folderP l t).1 = true := folderP_valid
  generalize (folderP l t).1 = L at *
  generalize (folderP l t).2 = b at *
  have h3 := entriesValid_len hL
  have loop : ∀ d j w, j + d = L.length → EvP (fun k => spec_l10Drop.l0 k l ns L b w (j : Int)) (fun r => Holds l r.1) := by
   intro d
   induction d with
   | zero =>
    intro j w hj
    refine EvP_succ.mpr ?_
    simp only [spec_l10Drop.l0]
    rw [EvP_neg (by omega), EvP_ite]
    split
    ·exact EvP_some.mpr ⟨h, id⟩
    ·rw [EvP_ite]
     split
     ·rename_i g
      rw [EvP_pos (by omega)]
      refine EvP_bp (next w () (by omega)) ?_
      rintro ⟨s', p', ok⟩ ⟨g1, g2⟩
      dsimp only at g1 g2 ⊢
      rw [EvP_ite]
      split
      ·exact hj1 _ _ _ g1 g2 hL
      ·exact EvP_some.mpr ⟨h, id⟩
     ·exact hj1 _ _ _ h id hL
   | succ d ihd =>
    intro j w hj
    refine EvP_succ.mpr ?_
    simp only [spec_l10Drop.l0, w64s j (by omega)]
    rw [EvP_pos (by omega), EvP_ite]
    split
    ·rw [EvP_pos (by omega), EvP_pos (by omega), EvP_ite]
     split
     ·exact ihd (j + 1) _ (by omega)
     ·exact ihd (j + 1) _ (by omega)
    ·exact ihd (j + 1) _ (by omega)
  exact loop L.length 0 _ (by omega)
theorem writeAt_p {l : List S65} (h : storeValid l = true) (root : Int) {p c : ByteArray} {ps : List ByteArray} (hp : pathParts p = (ps, true)) (hne : ps ≠ []) (hps : p.size ≤ 4294967200) (hc : contentValid c = true) : EvP (fun k => spec_WriteAt.f k l root p c) (fun r => Holds l r.1) := by
 have h40 := (storeValid_iff.1 h).1
 have hcs := contentValid_size hc
 have hok := pathOk_iff.1 (pathParts_ok p)
 rw [hp] at hok
 have hlen := List.length_pos_iff.2 hne
 unfold spec_WriteAt.f
 rw [EvP_bd (spec_pathParts_ev p hps), hp, EvP_bd (spec_store_ev l (storeValid_sized h)), EvP_pos h, EvP_pos rfl, EvP_neg (by dsimp only; omega), EvP_bd (spec_content_ev c (by omega)), hc]
 refine EvP_succ.mpr ?_
 simp only [spec_WriteAt.j0]
 rw [EvP_neg (by simp), EvP_b0 rfl, EvP_pos (by first | (simp; done) | (simp; omega) | omega), EvP_b0 rfl, EvP_bd (spec_l4_ev l root (by omega)), EvP_ite]
 have same : Holds l (([] : List S65) ++ l) := by rw [List.nil_append]; exact ⟨h, id⟩
 split
 case isFalse => exact EvP_some.mpr same
 refine EvP_bp (fileText_p c (by omega)) ?_
 intro f1 hf1
 rw [EvP_bd (spec_print_ev f1 (by omega))]
 refine EvP_bp (l10Set_p ps (words_size hok.2) l root _ h) ?_
 rintro ⟨s', p', ok⟩ ⟨g1, g2⟩
 dsimp only at g1 g2 ⊢
 rw [EvP_ite]
 split
 case isFalse => exact EvP_some.mpr same
 refine EvP_bp (fileText_p c (by omega)) ?_
 intro f2 hf2
 obtain ⟨q1, q2, q3⟩ := put_p g1 f2 (by omega)
 have hq40 := (storeValid_iff.1 q2).1
 rw [EvP_bd q1, EvP_ite]
 split
 case isFalse => exact EvP_some.mpr same
 rw [EvP_b0 rfl, EvP_pos (by first | (simp; done) | (simp; omega) | omega)]
 refine EvP_some.mpr ?_
 dsimp only
 rw [List.nil_append]
 exact ⟨q2, fun g => q3 (g2 g)⟩
theorem dropAt_p {l : List S65} (h : storeValid l = true) (root : Int) {p : ByteArray} {ps : List ByteArray} (hp : pathParts p = (ps, true)) (hne : ps ≠ []) (hps : p.size ≤ 4294967200) : EvP (fun k => spec_DropAt.f k l root p) (fun r => Holds l r.1) := by
 have h40 := (storeValid_iff.1 h).1
 have hok := pathOk_iff.1 (pathParts_ok p)
 rw [hp] at hok
 have hlen := List.length_pos_iff.2 hne
 have h3 : ps.length ≤ 3 := hok.1
 unfold spec_DropAt.f
 have e0 : (((ps, true).1.length : Int) == 0) = false := by
  rw [beq_eq_false_iff_ne]
  dsimp only
  omega
 rw [EvP_bd (spec_pathParts_ev p hps), hp, EvP_bd (spec_store_ev l (storeValid_sized h)), EvP_pos h, EvP_pos rfl, e0]
 refine EvP_succ.mpr ?_
 simp only [spec_DropAt.j0]
 have same : Holds l (([] : List S65) ++ l) := by rw [List.nil_append]; exact ⟨h, id⟩
 rw [EvP_neg (by simp), EvP_b0 rfl, EvP_pos (by first | (simp; done) | (simp; omega) | omega), EvP_b0 rfl, EvP_bd (spec_l9_ev h root ps (by omega)), EvP_ite]
 split
 case isFalse => exact EvP_some.mpr same
 refine EvP_bp (l10Drop_p (ps.length - 1) ps (by omega) (words_size hok.2) l root h) ?_
 rintro ⟨s', p', ok⟩ ⟨g1, g2⟩
 dsimp only at g1 g2 ⊢
 have hj1 : ∀ c, EvP (fun k => spec_DropAt.j1 k root ([] ++ l) s' p' ok c) (fun r => Holds l r.1) := by
  intro c
  refine EvP_succ.mpr ?_
  simp only [spec_DropAt.j1]
  rw [EvP_ite]
  split
  ·refine EvP_bp (emptyRoot_p g1) ?_
   rintro ⟨s2, p2, ok2⟩ e
   dsimp only at e ⊢
   subst e
   obtain ⟨-, q2, q3⟩ := put_p g1 (folderT []) (by have := folderT_size []; omega)
   have hq40 := (storeValid_iff.1 q2).1
   rw [EvP_ite]
   split
   ·rw [EvP_b0 rfl, EvP_pos (by first | (simp; done) | (simp; omega) | omega)]
    refine EvP_some.mpr ?_
    dsimp only
    rw [List.nil_append]
    exact ⟨q2, fun g => q3 (g2 g)⟩
   ·exact EvP_some.mpr same
  ·have hq40 := (storeValid_iff.1 g1).1
   rw [EvP_ite]
   split
   ·rw [EvP_b0 rfl, EvP_pos (by first | (simp; done) | (simp; omega) | omega)]
    refine EvP_some.mpr ?_
    dsimp only
    rw [List.nil_append]
    exact ⟨g1, g2⟩
   ·exact EvP_some.mpr same
 rw [EvP_ite]
 split
 ·exact hj1 _
 ·exact hj1 _
end Go.Proofs.Ytcbmkonigclceaa.Mod
