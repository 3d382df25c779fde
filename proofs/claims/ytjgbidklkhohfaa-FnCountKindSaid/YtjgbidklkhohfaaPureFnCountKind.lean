/- The pure statement of FnCountKind: proved. -/
import Derived.Test.YtjgbidklkhohfaaStmtFnCountKind
import Derived.Test.YtjgbidklkhohfaaDrawS
import Derived.Test.YtjgbidklkhohfaaMChg
import Derived.Test.YtjgbidklkhohfaaCount
namespace Go.Proofs.Ytjgbidklkhohfaa.Pure
open Go.RowKit Go.Proofs.Ytjgbidklkhohfaa.P Go.Proofs.Ytjgbidklkhohfaa.EvK Go.Proofs.Ytjgbidklkhohfaa.Mod Go.Proofs.YtjgbidklkhohfaaW.PrintWords
theorem gone_mem (l : List S45) (r2 : Int) : ∀ F, ∀ v ∈ gone l r2 F, v.f0 ∈ F ∧ v.f1 = 2 := by
 intro F
 induction F with
 | nil => intro v hv; simp [gone] at hv
 | cons p F ih =>
  intro v hv
  rw [gone] at hv
  split at hv
  ·exact ⟨List.mem_cons_of_mem _ (ih v hv).1, (ih v hv).2⟩
  ·rcases List.mem_cons.1 hv with rfl | hv
   ·exact ⟨List.mem_cons_self, rfl⟩
   ·exact ⟨List.mem_cons_of_mem _ (ih v hv).1, (ih v hv).2⟩
theorem fresh_mem (l : List S45) (r1 r2 : Int) : ∀ F, ∀ v ∈ fresh l r1 r2 F, v.f0 ∈ F ∧ (v.f1 = 0 ∨ v.f1 = 1) := by
 intro F
 induction F with
 | nil => intro v hv; simp [fresh] at hv
 | cons p F ih =>
  intro v hv
  rw [fresh] at hv
  split at hv
  ·split at hv
   ·exact ⟨List.mem_cons_of_mem _ (ih v hv).1, (ih v hv).2⟩
   ·rcases List.mem_cons.1 hv with rfl | hv
    ·exact ⟨List.mem_cons_self, Or.inr rfl⟩
    ·exact ⟨List.mem_cons_of_mem _ (ih v hv).1, (ih v hv).2⟩
  ·rcases List.mem_cons.1 hv with rfl | hv
   ·exact ⟨List.mem_cons_self, Or.inl rfl⟩
   ·exact ⟨List.mem_cons_of_mem _ (ih v hv).1, (ih v hv).2⟩
theorem changes_mem (l : List S45) (r1 r2 : Int) : ∀ v ∈ changesOf l r1 r2, v.f0.size ≤ 28 ∧ (v.f1 = 0 ∨ v.f1 = 1 ∨ v.f1 = 2) := by
 intro v hv
 unfold changesOf at hv
 rcases List.mem_append.1 hv with hv | hv
 ·have h := gone_mem l r2 _ v hv
  exact ⟨allFiles_size l r1 _ h.1, Or.inr (Or.inr h.2)⟩
 ·have h := fresh_mem l r1 r2 _ v hv
  refine ⟨allFiles_size l r2 _ h.1, ?_⟩
  rcases h.2 with e | e
  ·exact Or.inl e
  ·exact Or.inr (Or.inl e)
theorem count_sum (l : List S37) (h : ∀ v ∈ l, v.f1 = 0 ∨ v.f1 = 1 ∨ v.f1 = 2) : countK 0 l + countK 1 l + countK 2 l = l.length := by
 induction l with
 | nil => rfl
 | cons v l ih =>
  have := ih (fun w hw => h w (List.mem_cons_of_mem _ hw))
  unfold countK at *
  rcases h v List.mem_cons_self with e | e | e <;> simp [e] <;> omega
theorem draw_p (l : List Int) (hl : ∀ x ∈ l, 0 ≤ x ∧ x ≤ 255) : EvP (fun k => spec_DrawCountKind.f k l) (fun r => ∃ s a b, DrawnS s ∧ r.1 = changesOf s a b) := by
 unfold spec_DrawCountKind.f
 refine EvP_bp (two_p l hl) ?_
 rintro ⟨s, a, b⟩ hs
 dsimp only at hs ⊢
 obtain ⟨bs, hb, hok⟩ := open_ev l hl
 rw [EvP_bd (spec_changes_ev s a b hs.sized), EvP_b0 hb]
 refine EvP_bp (pick_p hok 4 (by omega)) ?_
 rintro ⟨v, q⟩ -
 exact EvP_some.mpr ⟨s, a, b, hs, rfl⟩
theorem FnCountKind : laws_FnCountKind.Stmt := by
 intro l hl hq
 have hb : ∀ x ∈ l, 0 ≤ x ∧ x ≤ 255 := fun x hx => wf_u8 (hq x hx)
 refine EvP_rounds (g := fun k => laws_FnCountKind.f k l) ?_
 unfold laws_FnCountKind.f
 rw [EvP_ite]
 by_cases h0 : (l.length : Int) > 1048576
 ·rw [if_pos h0]; exact EvP_some.mpr rfl
 rw [if_neg h0]
 refine EvP_bp (draw_p l hb) ?_
 rintro ⟨c, kind⟩ ⟨s, a, b, hs, e⟩
 dsimp only at e ⊢
 subst e
 have hlen := changesOf_len s a b
 have hm := changes_mem s a b
 generalize changesOf s a b = c at *
 have hz : ChangeSized c := ⟨by omega, fun v hv => by have := (hm v hv).1; omega⟩
 have hsum := count_sum c (fun v hv => (hm v hv).2)
 have hle := countK_le kind c
 rw [EvP_bd (impl_count_ev c kind hz), EvP_bd (spec_count_ev c kind hz), EvP_pos rfl, EvP_bd (impl_count_ev c 0 hz), EvP_bd (impl_count_ev c 1 hz), EvP_bd (impl_count_ev c 2 hz), w64 (x := (countK 0 c : Int) + (countK 1 c : Int)) (by omega) (by omega), w64 (by omega) (by omega), EvP_pos (by omega), EvP_pos (by omega), EvP_bd alive_ev]
 exact EvP_some.mpr rfl
end Go.Proofs.Ytjgbidklkhohfaa.Pure
