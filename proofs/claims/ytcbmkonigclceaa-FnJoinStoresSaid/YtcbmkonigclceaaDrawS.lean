/- What the draws of stores come to. -/
import Derived.Test.YtcbmkonigclceaaPx0
import Derived.Test.YtcbmkonigclceaaPx2
import Derived.Test.YtcbmkonigclceaaPx3
import Derived.Test.YtcbmkonigclceaaPx8
import Derived.Test.YtcbmkonigclceaaPx9
import Derived.Test.YtcbmkonigclceaaWriteS
import Derived.Test.YtcbmkonigclceaaPick
namespace Go.Proofs.Ytcbmkonigclceaa.Mod
open Go.RowKit Go.Proofs.Ytcbmkonigclceaa.P Go.Proofs.Ytcbmkonigclceaa.EvK Go.Proofs.YtcbmkonigclceaaW.PrintWords Go.Proofs.YtcbmkonigclceaaW.PrintLast
set_option linter.all false
theorem oddS_p {b : List Int} {p : Int} (h : RdOk b p) (n : Int) (hn : n ≤ 1000000) : EvP (fun k => spec_l20Rd_odd.f k b p n) (fun r => p ≤ r.2 ∧ r.2 ≤ p + 1) := by
 unfold spec_l20Rd_odd.f
 rw [EvP_ite]
 split
 ·refine EvP_bp (pick_p h n hn) ?_
  rintro ⟨v, q⟩ ⟨rfl, -, -⟩
  exact EvP_some.mpr ⟨by dsimp only; omega, by dsimp only; omega⟩
 ·exact EvP_some.mpr ⟨by dsimp only; omega, by dsimp only; omega⟩
def PathD (p : ByteArray) : Prop := p.size ≤ 28 ∧ (p.toList = ([47] : List UInt8) ∨ ∃ ps, pathParts p = (ps, true) ∧ ps ≠ [])
theorem pathD_of (ps : List ByteArray) (p : ByteArray) (h : pathOk ps = true) (hne : ps ≠ []) (e : p = mkB (joinL ps)) (hs : p.size ≤ 28) : PathD p := ⟨hs, Or.inr ⟨ps, by rw [e]; exact pathParts_join h, hne⟩⟩
def wa : ByteArray := mkB [97]
def wb : ByteArray := mkB [98]
def wc : ByteArray := mkB [99]
theorem pathD_all (v : Int) (h : 0 ≤ v ∧ v < 13) : 0 ≤ rd [0, 1, 2, 3, 4, 5, 6, 7, 0, 1, 2, 3, 4] v ∧ rd [0, 1, 2, 3, 4, 5, 6, 7, 0, 1, 2, 3, 4] v < 8 ∧
  PathD (rdOf ByteArray.empty [(⟨#[47, 97]⟩ : ByteArray), (⟨#[47, 98]⟩ : ByteArray), (⟨#[47, 99]⟩ : ByteArray), (⟨#[47, 97, 47, 98]⟩ : ByteArray), (⟨#[47, 98, 47, 97]⟩ : ByteArray), (⟨#[47, 98, 47, 98, 47, 97]⟩ : ByteArray), (⟨#[47, 97, 47, 98, 47, 99]⟩ : ByteArray), (⟨#[47]⟩ : ByteArray)] (rd [0, 1, 2, 3, 4, 5, 6, 7, 0, 1, 2, 3, 4] v)) := by
 have p0 : PathD (⟨#[47, 97]⟩ : ByteArray) := pathD_of [wa] _ (by decide) (by simp) (by decide) (by decide)
 have p1 : PathD (⟨#[47, 98]⟩ : ByteArray) := pathD_of [wb] _ (by decide) (by simp) (by decide) (by decide)
 have p2 : PathD (⟨#[47, 99]⟩ : ByteArray) := pathD_of [wc] _ (by decide) (by simp) (by decide) (by decide)
 have p3 : PathD (⟨#[47, 97, 47, 98]⟩ : ByteArray) := pathD_of [wa, wb] _ (by decide) (by simp) (by decide) (by decide)
 have p4 : PathD (⟨#[47, 98, 47, 97]⟩ : ByteArray) := pathD_of [wb, wa] _ (by decide) (by simp) (by decide) (by decide)
 have p5 : PathD (⟨#[47, 98, 47, 98, 47, 97]⟩ : ByteArray) := pathD_of [wb, wb, wa] _ (by decide) (by simp) (by decide) (by decide)
 have p6 : PathD (⟨#[47, 97, 47, 98, 47, 99]⟩ : ByteArray) := pathD_of [wa, wb, wc] _ (by decide) (by simp) (by decide) (by decide)
 have p7 : PathD (⟨#[47]⟩ : ByteArray) := ⟨by decide, Or.inl (mkB_toList [47])⟩
 have : v = 0 ∨ v = 1 ∨ v = 2 ∨ v = 3 ∨ v = 4 ∨ v = 5 ∨ v = 6 ∨ v = 7 ∨ v = 8 ∨ v = 9 ∨ v = 10 ∨ v = 11 ∨ v = 12 := by omega
 rcases this with rfl | rfl | rfl | rfl | rfl | rfl | rfl | rfl | rfl | rfl | rfl | rfl | rfl
 ·exact ⟨by decide, by decide, p0⟩
 ·exact ⟨by decide, by decide, p1⟩
 ·exact ⟨by decide, by decide, p2⟩
 ·exact ⟨by decide, by decide, p3⟩
 ·exact ⟨by decide, by decide, p4⟩
 ·exact ⟨by decide, by decide, p5⟩
 ·exact ⟨by decide, by decide, p6⟩
 ·exact ⟨by decide, by decide, p7⟩
 ·exact ⟨by decide, by decide, p0⟩
 ·exact ⟨by decide, by decide, p1⟩
 ·exact ⟨by decide, by decide, p2⟩
 ·exact ⟨by decide, by decide, p3⟩
 ·exact ⟨by decide, by decide, p4⟩
theorem path_p {b : List Int} {p : Int} (h : RdOk b p) : EvP (fun k => spec_l20Path.f k b p 0) (fun r => PathD r.1 ∧ r.2 = p + 1) := by
 unfold spec_l20Path.f
 have ho : Ev (fun k => spec_l20Rd_odd.f k b p 0) (false, p) := by
  unfold spec_l20Rd_odd.f
  rw [Ev_neg (by omega)]
  exact Ev_some.mpr rfl
 rw [EvP_bd ho, EvP_neg (by simp), EvP_b0 rfl, EvP_b0 rfl]
 refine EvP_bp (pick_p h 13 (by omega)) ?_
 rintro ⟨v, q⟩ ⟨rfl, r1, -⟩
 have r1 := r1 (by omega)
 dsimp only at r1 ⊢
 obtain ⟨g1, g2, g3⟩ := pathD_all v r1
 rw [EvP_pos r1.1, EvP_pos (by simpa using r1.2), EvP_pos g1, EvP_pos (by simpa using g2)]
 exact EvP_some.mpr ⟨g3, rfl⟩
theorem content_p {b : List Int} {p : Int} (h : RdOk b p) : EvP (fun k => spec_l20Content.f k b p) (fun r => contentValid r.1 = true ∧ r.2 = p + 1) := by
 unfold spec_l20Content.f
 rw [EvP_b0 rfl]
 refine EvP_bp (pick_p h 4 (by omega)) ?_
 rintro ⟨v, q⟩ ⟨rfl, r1, -⟩
 have r1 := r1 (by omega)
 dsimp only at r1 ⊢
 rw [EvP_pos r1.1, EvP_pos (by simpa using r1.2)]
 refine EvP_some.mpr ⟨?_, rfl⟩
 have : v = 0 ∨ v = 1 ∨ v = 2 ∨ v = 3 := by omega
 rcases this with rfl | rfl | rfl | rfl <;> (dsimp only; decide)
def Full (l : List S65) : Prop := storeValid l = true ∧ l ≠ []
theorem step_p {b : List Int} {p : Int} (h : RdOk b p) (hp : p + 3 ≤ 1000000) {l : List S65} (hl : Full l) (root : Int) : EvP (fun k => spec_l20Step.f k b p l root) (fun r => Full r.1 ∧ p ≤ r.2.2.2 ∧ r.2.2.2 ≤ p + 3) := by
 unfold spec_l20Step.f
 refine EvP_bp (path_p h) ?_
 rintro ⟨s, q⟩ ⟨⟨hs, hd⟩, rfl⟩
 dsimp only at hs hd ⊢
 have hq : RdOk b (p + 1) := h.to (by omega) (by omega)
 rw [EvP_ite]
 split
 ·exact EvP_some.mpr ⟨hl, by dsimp only; omega, by dsimp only; omega⟩
 ·rename_i hn
  obtain ⟨ps, e, hne⟩ := hd.resolve_left hn
  refine EvP_bp (pick_p hq 5 (by omega)) ?_
  rintro ⟨v, q⟩ ⟨rfl, -, -⟩
  dsimp only
  have hq2 : RdOk b (p + 1 + 1) := h.to (by omega) (by omega)
  rw [EvP_ite]
  split
  ·refine EvP_bp (dropAt_p hl.1 root e hne (by omega)) ?_
   rintro ⟨s', p', ok⟩ ⟨g1, g2⟩
   exact EvP_some.mpr ⟨⟨g1, g2 hl.2⟩, by dsimp only; omega, by dsimp only; omega⟩
  ·refine EvP_bp (content_p hq2) ?_
   rintro ⟨c, q⟩ ⟨hc, rfl⟩
   dsimp only at hc ⊢
   refine EvP_bp (writeAt_p hl.1 root e hne (by omega) hc) ?_
   rintro ⟨s', p', ok⟩ ⟨g1, g2⟩
   exact EvP_some.mpr ⟨⟨g1, g2 hl.2⟩, by dsimp only; omega, by dsimp only; omega⟩
structure DrawnS (l : List S65) : Prop where
 len : l.length ≤ 41
 siz : ∀ v ∈ l, v.f1.size ≤ 60
 ne : l ≠ []
theorem DrawnS.sized {l : List S65} (h : DrawnS l) : StoreSized l := ⟨by have := h.len; omega, fun v hv => by have := h.siz v hv; omega⟩
theorem full_drawn {l : List S65} (h : Full l) : DrawnS l := by
 obtain ⟨h1, h2, -⟩ := storeValid_iff.1 h.1
 exact ⟨by omega, fun v hv => textValid_size (h2 v hv).1, h.2⟩
theorem set_drawn {l : List S65} (h : DrawnS l) (i : Nat) (v : S65) (hv : v.f1.size ≤ 60) : DrawnS (l.set i v) := by
 refine ⟨by rw [List.length_set]; exact h.len, fun x hx => ?_, fun e => h.ne ?_⟩
 ·rcases List.mem_or_eq_of_mem_set hx with hx | rfl
  ·exact h.siz x hx
  ·exact hv
 ·have := congrArg List.length e
  rw [List.length_set] at this
  exact List.length_eq_zero_iff.1 (by simpa using this)
theorem getD_siz {l : List S65} (h : DrawnS l) (i : Nat) : (l.getD i z65).f1.size ≤ 60 := by
 rcases Nat.lt_or_ge i l.length with hi | hi
 ·rw [pieceAt l i hi]; exact h.siz _ (List.getElem_mem _)
 ·rw [List.getD_eq_getElem?_getD, List.getElem?_eq_none hi]; decide
theorem root_full : EvP (fun k => spec_EmptyRoot.f k []) (fun r => Full r.1) := by
 have hv : storeValid [] = true := by decide
 refine EvP_mono (emptyRoot_p hv) ?_
 intro r e
 rw [e]
 have ht : textValid (folderT []) = true := by
  have : folderT [] = mkB [100] := by unfold folderT; rw [if_pos entriesValid_nil]; rfl
  rw [this]; decide
 exact ⟨putT_valid _ _, putT_new ht⟩
theorem store_p {b : List Int} {p : Int} (h : RdOk b p) (hp : p + 30 ≤ 1000000) (n : Int) (hn : n ≤ 1000000) : EvP (fun k => spec_l20Store.f k b p n) (fun r => DrawnS r.1 ∧ (n ≤ 0 → Full r.1) ∧ p ≤ r.2.2 ∧ r.2.2 ≤ p + 30) := by
 unfold spec_l20Store.f
 refine EvP_bp root_full ?_
 rintro ⟨s, root, ok⟩ hf
 dsimp only at hf ⊢
 refine EvP_bp (pick_p h 6 (by omega)) ?_
 rintro ⟨v, q⟩ ⟨rfl, r1, -⟩
 have r1 := r1 (by omega)
 dsimp only at r1 ⊢
 have loop : ∀ (d : Nat) (s : List S65) (root q : Int), (d : Int) < 6 → RdOk b q → q + 3 * d + 10 ≤ p + 30 → p ≤ q → Full s → EvP (fun k => spec_l20Store.l0 k n s root (d : Int) b q) (fun r => DrawnS r.1 ∧ (n ≤ 0 → Full r.1) ∧ p ≤ r.2.2 ∧ r.2.2 ≤ p + 30) := by
  intro d
  induction d with
  | zero =>
   intro s root q hd hq hb hp0 hs
   have hD := full_drawn hs
   have hl := hD.len
   have hpos := List.length_pos_iff.2 hD.ne
   refine EvP_succ.mpr ?_
   simp only [spec_l20Store.l0]
   rw [EvP_neg (by omega)]
   by_cases hn0 : n ≤ 0
   ·have ho : Ev (fun k => spec_l20Rd_odd.f k b q n) (false, q) := by
     unfold spec_l20Rd_odd.f
     rw [Ev_neg (by omega)]
     exact Ev_some.mpr rfl
    rw [EvP_bd ho, EvP_neg (by simp)]
    exact EvP_some.mpr ⟨hD, fun _ => hs, by dsimp only; omega, by dsimp only; omega⟩
   refine EvP_bp (oddS_p hq n hn) ?_
   rintro ⟨o, q1⟩ ⟨b1, b2⟩
   dsimp only at b1 b2 ⊢
   have hq1 : RdOk b q1 := hq.to b1 (by omega)
   rw [EvP_ite]
   split
   ·refine EvP_bp (pick_p hq1 3 (by omega)) ?_
    rintro ⟨v2, q2⟩ ⟨rfl, -, -⟩
    dsimp only
    have hq2 : RdOk b (q1 + 1) := hq1.to (by omega) (by omega)
    rw [EvP_ite]
    split
    ·rw [EvP_b0 rfl, EvP_pos (by first | (simp; done) | (simp; omega) | omega), EvP_b0 rfl, List.nil_append]
     refine EvP_bp (pick_p hq2 _ (by omega)) ?_
     rintro ⟨v3, q3⟩ ⟨rfl, r3, -⟩
     have r3 := r3 (by omega)
     dsimp only at r3 ⊢
     have hq3 : RdOk b (q1 + 1 + 1) := hq1.to (by omega) (by omega)
     rw [EvP_b0 rfl]
     refine EvP_bp (pick_p hq3 2 (by omega)) ?_
     rintro ⟨v4, q4⟩ ⟨rfl, r4, -⟩
     have r4 := r4 (by omega)
     dsimp only at r4 ⊢
     rw [EvP_pos r4.1, EvP_pos (by simpa using r4.2), EvP_pos r3.1, EvP_pos r3.2]
     refine EvP_some.mpr ⟨set_drawn hD _ _ ?_, fun g => absurd g hn0, by dsimp only; omega, by dsimp only; omega⟩
     obtain ⟨i, rfl⟩ : ∃ i : Nat, v3 = i := ⟨v3.toNat, by omega⟩
     rw [rdPiece]
     exact getD_siz hD i
    ·rw [EvP_ite]
     split
     ·rw [EvP_b0 rfl, EvP_pos (by first | (simp; done) | (simp; omega) | omega), EvP_b0 rfl, List.nil_append, EvP_pos (by omega), EvP_b0 rfl, EvP_pos (by first | (simp; done) | (simp; omega) | omega)]
      refine EvP_some.mpr ⟨⟨by obtain ⟨h40, -⟩ := storeValid_iff.1 hs.1; simp; omega, fun x hx => ?_, by simp⟩, fun g => absurd g hn0, by dsimp only; omega, by dsimp only; omega⟩
      rcases List.mem_append.1 hx with hx | hx
      ·exact hD.siz x hx
      ·rw [List.mem_singleton.1 hx]
       exact getD_siz hD 0
     ·have w1 : wrap64 ((s.length : Int) - 1) = ((s.length - 1 : Nat) : Int) := by rw [w64 (by omega) (by omega)]; omega
      rw [EvP_b0 rfl, EvP_pos (by first | (simp; done) | (simp; omega) | omega), EvP_b0 rfl, List.nil_append, w1, EvP_pos (by omega), EvP_pos (by omega)]
      exact EvP_some.mpr ⟨set_drawn hD _ _ (by dsimp only; decide), fun g => absurd g hn0, by dsimp only; omega, by dsimp only; omega⟩
   ·exact EvP_some.mpr ⟨hD, fun _ => hs, by dsimp only; omega, by dsimp only; omega⟩
  | succ d ih =>
   intro s root q hd hq hb hp0 hs
   refine EvP_succ.mpr ?_
   simp only [spec_l20Store.l0]
   rw [EvP_pos (by omega)]
   refine EvP_bp (step_p hq (by omega) hs root) ?_
   rintro ⟨s', root', ok', q'⟩ ⟨f1, f2, f3⟩
   dsimp only at f1 f2 f3 ⊢
   have w1 : wrap64 (((d + 1 : Nat) : Int) - 1) = (d : Int) := by rw [w64 (by omega) (by omega)]; omega
   rw [w1]
   exact ih s' root' q' (by omega) (hq.to f2 (by omega)) (by omega) (by omega) f1
 obtain ⟨d, rfl⟩ : ∃ d : Nat, v = d := ⟨v.toNat, by omega⟩
 exact loop d s root (p + 1) (by omega) (h.to (by omega) (by omega)) (by omega) (by omega) hf
end Go.Proofs.Ytcbmkonigclceaa.Mod
