/- What the draws of texts come to. -/
import Derived.Test.YtcbmkonigclceaaPx0
import Derived.Test.YtcbmkonigclceaaPx12
import Derived.Test.YtcbmkonigclceaaDrawS
namespace Go.Proofs.Ytcbmkonigclceaa.Mod
open Go.RowKit Go.Proofs.Ytcbmkonigclceaa.P Go.Proofs.Ytcbmkonigclceaa.EvK Go.Proofs.YtcbmkonigclceaaW.PrintWords Go.Proofs.YtcbmkonigclceaaW.PrintLast
set_option linter.all false
theorem textD_p {b : List Int} {p : Int} (h : RdOk b p) (hp : p + 2 ≤ 1000000) (n : Int) (hn : n ≤ 1000000) : EvP (fun k => spec_l20Text.f k b p n) (fun r => r.1.size ≤ 61) := by
 unfold spec_l20Text.f
 refine EvP_bp (oddS_p h n hn) ?_
 rintro ⟨o, q⟩ ⟨h1, h2⟩
 dsimp only at h1 h2 ⊢
 have hq : RdOk b q := h.to h1 (by omega)
 rw [EvP_ite]
 split
 ·rw [EvP_pos (by omega)]
  simp only [Option.bind_some]
  refine EvP_bp (pick_p hq 3 (by omega)) ?_
  rintro ⟨v, q'⟩ ⟨rfl, r1, -⟩
  have r1 := r1 (by omega)
  dsimp only at r1 ⊢
  rw [EvP_pos r1.1, EvP_pos (by simpa using r1.2)]
  refine EvP_some.mpr ?_
  have : v = 0 ∨ v = 1 ∨ v = 2 := by omega
  rcases this with rfl | rfl | rfl <;> (dsimp only; decide)
 ·simp only [Option.bind_some]
  refine EvP_bp (pick_p hq 8 (by omega)) ?_
  rintro ⟨v, q'⟩ ⟨rfl, r1, -⟩
  have r1 := r1 (by omega)
  dsimp only at r1 ⊢
  rw [EvP_pos r1.1, EvP_pos (by simpa using r1.2)]
  refine EvP_some.mpr ?_
  have : v = 0 ∨ v = 1 ∨ v = 2 ∨ v = 3 ∨ v = 4 ∨ v = 5 ∨ v = 6 ∨ v = 7 := by omega
  rcases this with rfl | rfl | rfl | rfl | rfl | rfl | rfl | rfl <;> (dsimp only; decide)
def SmallS (s : List S65) : Prop := s.length ≤ 41 ∧ ∀ v ∈ s, v.f1.size ≤ 60
theorem drawPut_p (l : List Int) (hl : ∀ x ∈ l, 0 ≤ x ∧ x ≤ 255) : EvP (fun k => spec_DrawPutText.f k l) (fun r => SmallS r.1 ∧ r.2.size ≤ 61) := by
 unfold spec_DrawPutText.f
 obtain ⟨b, hb, hok⟩ := open_ev l hl
 rw [EvP_b0 hb]
 refine EvP_bp (store_p hok (by omega) 9 (by omega)) ?_
 rintro ⟨s, root, q⟩ ⟨hs, -, b1, b2⟩
 dsimp only at hs b1 b2 ⊢
 have hq : RdOk b q := hok.to b1 (by omega)
 refine EvP_bp (oddS_p hq 14 (by omega)) ?_
 rintro ⟨o, q1⟩ ⟨c1, c2⟩
 dsimp only at c1 c2 ⊢
 have hq1 : RdOk b q1 := hq.to c1 (by omega)
 have stop : ∀ x, SmallS x → EvP (fun k => (spec_l20Text.f k b q1 9).bind fun bt => (some (x, bt.1))) (fun r => SmallS r.1 ∧ r.2.size ≤ 61) := by
  intro x hx
  refine EvP_bp (textD_p hq1 (by omega) 9 (by omega)) ?_
  rintro ⟨t, q2⟩ ht
  exact EvP_some.mpr ⟨hx, ht⟩
 rw [EvP_ite]
 split
 ·have loop : ∀ (d i : Nat) (x : List S65), i + d = 200 → storeValid x = true → EvP (fun k => spec_DrawPutText.l0 k x (i : Int) b q1) (fun r => SmallS r.1 ∧ r.2.size ≤ 61) := by
   intro d
   induction d with
   | zero =>
    intro i x hi hx
    obtain ⟨h40, hv, -⟩ := storeValid_iff.1 hx
    have hj : ∀ c, c = false → EvP (fun k => spec_DrawPutText.j1 k x (i : Int) c b q1) (fun r => SmallS r.1 ∧ r.2.size ≤ 61) := by
     rintro _ rfl
     refine EvP_succ.mpr ?_
     simp only [spec_DrawPutText.j1]
     rw [EvP_neg (by simp)]
     exact stop x ⟨by omega, fun v hv2 => textValid_size (hv v hv2).1⟩
    refine EvP_succ.mpr ?_
    simp only [spec_DrawPutText.l0]
    rw [EvP_ite]
    split
    ·exact hj _ (decide_eq_false (by omega))
    ·exact hj _ rfl
   | succ d ih =>
    intro i x hi hx
    obtain ⟨h40, hv, -⟩ := storeValid_iff.1 hx
    refine EvP_succ.mpr ?_
    simp only [spec_DrawPutText.l0]
    rw [EvP_ite]
    split
    ·rw [decide_eq_true (show (i : Int) < 200 by omega)]
     refine EvP_succ.mpr ?_
     simp only [spec_DrawPutText.j1]
     have hh : (hexT (i : Int)).size ≤ 6 := by
      rw [hexT_in (by omega), Int.toNat_natCast]
      unfold hexB
      rw [ba_size]
      exact hexL_len 5 i (by omega)
     have hsz : ((⟨#[116]⟩ : ByteArray) ++ hexT (i : Int)).size ≤ 7 := by
      rw [ByteArray.size_append]
      have : (⟨#[116]⟩ : ByteArray).size = 1 := rfl
      omega
     rw [EvP_pos trivial, EvP_bd (spec_hex_ev (i : Int)), EvP_pos (by omega), EvP_bd (put_p hx _ (by omega)).1, w64s i (by omega)]
     exact ih (i + 1) _ (by omega) (putT_valid _ _)
    ·refine EvP_succ.mpr ?_
     simp only [spec_DrawPutText.j1]
     rw [EvP_neg (by simp)]
     exact stop x ⟨by omega, fun v hv2 => textValid_size (hv v hv2).1⟩
  exact loop 200 0 [] (by omega) (by decide)
 ·refine EvP_bp (textD_p hq1 (by omega) 9 (by omega)) ?_
  rintro ⟨t, q2⟩ ht
  exact EvP_some.mpr ⟨⟨hs.len, hs.siz⟩, ht⟩
end Go.Proofs.Ytcbmkonigclceaa.Mod
