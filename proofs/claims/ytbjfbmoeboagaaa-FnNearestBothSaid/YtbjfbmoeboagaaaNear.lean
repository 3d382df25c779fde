/- What NearestBoth comes to. -/
import Derived.Test.YtbjfbmoeboagaaaPx0
import Derived.Test.YtbjfbmoeboagaaaPx36
import Derived.Test.YtbjfbmoeboagaaaPx37
import Derived.Test.YtbjfbmoeboagaaaPx39
import Derived.Test.YtbjfbmoeboagaaaLine
namespace Go.Proofs.Ytbjfbmoeboagaaa.Mod
open Go.RowKit Go.Proofs.Ytbjfbmoeboagaaa.P Go.Proofs.Ytbjfbmoeboagaaa.EvK Go.Proofs.YtbjfbmoeboagaaaW.PrintWords Go.Proofs.YtbjfbmoeboagaaaW.PrintLast
set_option linter.unusedVariables false
set_option linter.unusedSimpArgs false
/-- The first number of the one list that is in the other. -/
def nearest (x y : List Int) : Int := (x.find? (fun n => decide (n ∈ y))).getD (-1)
theorem nearest_cons (n : Int) (x y : List Int) : nearest (n :: x) y = if n ∈ y then n else nearest x y := by
  unfold nearest
  rw [List.find?_cons]
  by_cases h : n ∈ y <;> simp [h]
theorem contains_ev (y : List Int) (n : Int) (hy : y.length ≤ 9223372036854775807) : Ev (fun k => slices_Contains_int_int.f k y n) (decide (n ∈ y)) := by
  have key : ∀ d i, i + d = y.length → EvP (fun k => slices_Index_int_int.l0 k y n y.length (i : Int)) (fun v => 0 ≤ v ↔ n ∈ y.drop i) := by
    intro d
    induction d with
    | zero =>
      intro i hi
      refine EvP_succ.mpr ?_
      simp only [slices_Index_int_int.l0]
      rw [EvP_neg (by omega), List.drop_eq_nil_of_le (by omega)]
      exact EvP_some.mpr (by simp)
    | succ d ih =>
      intro i hi
      refine EvP_succ.mpr ?_
      simp only [slices_Index_int_int.l0, rd_nat, w64s i (by omega)]
      rw [EvP_pos (by omega), EvP_pos (by omega), EvP_pos (by omega), drop_cons y 0 i (by omega), EvP_ite]
      by_cases he : n = y.getD i 0
      · rw [if_pos he]
        exact EvP_some.mpr ⟨fun _ => by rw [he]; exact List.mem_cons_self, fun _ => by omega⟩
      · rw [if_neg he]
        refine EvP_mono (ih (i + 1) (by omega)) ?_
        intro v hv
        rw [hv, List.mem_cons]
        exact ⟨Or.inr, fun h => h.resolve_left he⟩
  unfold slices_Contains_int_int.f slices_Index_int_int.f
  obtain ⟨v, hv, h⟩ := key y.length 0 (by omega)
  rw [List.drop_zero] at h
  have hv2 : Ev (fun k => slices_Index_int_int.l0 k y n y.length 0) v := hv
  rw [Ev_bd hv2]
  refine Ev_some.mpr ?_
  by_cases hm : n ∈ y
  · rw [decide_eq_true hm]
    exact decide_eq_true (h.2 hm)
  · rw [decide_eq_false hm]
    exact decide_eq_false (fun g => hm (h.1 g))
theorem impl_near_ev (l : List S25) (hl : VersSized l) (a b : Int) (ha : -9223372036854775808 ≤ a ∧ a ≤ 9223372036854775807) (hb : -9223372036854775808 ≤ b ∧ b ≤ 9223372036854775807) : Ev (fun k => impl_NearestBoth.f k l a b) (nearest (lineOf l a) (lineOf l b)) := by
  unfold impl_NearestBoth.f
  rw [Ev_bd (impl_line_ev l hl b hb), Ev_bd (impl_line_ev l hl a ha)]
  have h1 := lineOf_len l a
  have h2 := lineOf_len l b
  generalize lineOf l a = x at *
  generalize lineOf l b = y at *
  have key : ∀ d i, i + d = x.length → Ev (fun k => impl_NearestBoth.l0 k y x x.length (i : Int)) (nearest (x.drop i) y) := by
    intro d
    induction d with
    | zero =>
      intro i hi
      refine Ev_succ.mpr ?_
      simp only [impl_NearestBoth.l0]
      rw [Ev_neg (by omega), List.drop_eq_nil_of_le (by omega)]
      exact Ev_some.mpr rfl
    | succ d ih =>
      intro i hi
      refine Ev_succ.mpr ?_
      simp only [impl_NearestBoth.l0, rd_nat, w64s i (by omega)]
      rw [Ev_pos (by omega), Ev_pos (by omega), Ev_pos (by omega), Ev_bd (contains_ev y _ (by omega)), drop_cons x 0 i (by omega), nearest_cons, Ev_ite]
      by_cases hm : x.getD i 0 ∈ y
      · rw [decide_eq_true hm, if_pos rfl, if_pos hm]
        exact Ev_some.mpr rfl
      · rw [decide_eq_false hm, if_neg (by simp), if_neg hm]
        exact ih (i + 1) (by omega)
  exact key x.length 0 (by omega)
theorem spec_near_ev (l : List S25) (hl : VersSized l) (a b : Int) (ha : -9223372036854775808 ≤ a ∧ a ≤ 9223372036854775807) (hb : -9223372036854775808 ≤ b ∧ b ≤ 9223372036854775807) : Ev (fun k => spec_NearestBoth.f k l a b) (nearest (lineOf l a) (lineOf l b)) := by
  unfold spec_NearestBoth.f
  rw [Ev_bd (spec_line_ev l hl a ha), Ev_bd (spec_line_ev l hl b hb)]
  have h1 := lineOf_len l a
  have h2 := lineOf_len l b
  generalize lineOf l a = x at *
  generalize lineOf l b = y at *
  have inner : ∀ d j i r, j + d = y.length → i < x.length → ((if x.getD i 0 ∈ y.drop j then x.getD i 0 = r else Ev (fun k => spec_NearestBoth.l0 k x y ((i + 1 : Nat) : Int)) r) → Ev (fun k => spec_NearestBoth.l1 k x y (i : Int) (j : Int)) r) := by
    intro d
    induction d with
    | zero =>
      intro j i r hj hi hr
      refine Ev_succ.mpr ?_
      simp only [spec_NearestBoth.l1, w64s i (by omega)]
      rw [Ev_neg (by omega)]
      rw [List.drop_eq_nil_of_le (by omega)] at hr
      simpa using hr
    | succ d ih =>
      intro j i r hj hi hr
      refine Ev_succ.mpr ?_
      simp only [spec_NearestBoth.l1, rd_nat, w64s j (by omega)]
      rw [Ev_pos (by omega), Ev_pos (by omega), Ev_pos (by omega), Ev_pos (by omega), Ev_ite]
      rw [drop_cons y 0 j (by omega)] at hr
      by_cases he : x.getD i 0 = y.getD j 0
      · rw [if_pos he]
        rw [if_pos (by rw [he]; exact List.mem_cons_self)] at hr
        exact Ev_some.mpr hr
      · rw [if_neg he]
        refine ih (j + 1) i r (by omega) hi ?_
        by_cases hm : x.getD i 0 ∈ y.drop (j + 1)
        · rw [if_pos hm]
          rw [if_pos (List.mem_cons_of_mem _ hm)] at hr
          exact hr
        · rw [if_neg hm]
          rw [if_neg (fun h => by rcases List.mem_cons.1 h with h | h; exact he h; exact hm h)] at hr
          exact hr
  have key : ∀ d i, i + d = x.length → Ev (fun k => spec_NearestBoth.l0 k x y (i : Int)) (nearest (x.drop i) y) := by
    intro d
    induction d with
    | zero =>
      intro i hi
      refine Ev_succ.mpr ?_
      simp only [spec_NearestBoth.l0]
      rw [Ev_neg (by omega), List.drop_eq_nil_of_le (by omega)]
      exact Ev_some.mpr rfl
    | succ d ih =>
      intro i hi
      refine Ev_succ.mpr ?_
      simp only [spec_NearestBoth.l0]
      rw [Ev_pos (by omega)]
      refine inner y.length 0 i _ (by omega) (by omega) ?_
      rw [List.drop_zero, drop_cons x 0 i (by omega), nearest_cons]
      by_cases hm : x.getD i 0 ∈ y
      · rw [if_pos hm, if_pos hm]
      · rw [if_neg hm, if_neg hm]
        exact ih (i + 1) (by omega)
  exact key x.length 0 (by omega)
end Go.Proofs.Ytbjfbmoeboagaaa.Mod
