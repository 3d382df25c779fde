/- What TipsOf comes to. -/
import Derived.Test.YtbjfbmoeboagaaaPx0
import Derived.Test.YtbjfbmoeboagaaaPx26
import Derived.Test.YtbjfbmoeboagaaaPx27
import Derived.Test.YtbjfbmoeboagaaaLineMore
namespace Go.Proofs.Ytbjfbmoeboagaaa.Mod
open Go.RowKit Go.Proofs.Ytbjfbmoeboagaaa.P Go.Proofs.Ytbjfbmoeboagaaa.EvK Go.Proofs.YtbjfbmoeboagaaaW.PrintWords Go.Proofs.YtbjfbmoeboagaaaW.PrintLast
set_option linter.unusedVariables false
set_option linter.unusedSimpArgs false
/-- A later version comes from this one. -/
def tipN (l : List S25) (i : Nat) : Bool := l.any (fun v => v.f1 == (i : Int))
def tipsFrom (l : List S25) (is : List Nat) : List Int := (is.filter (fun i => !tipN l i)).map (fun (i : Nat) => (i : Int))
def tipsOf (l : List S25) : List Int := if versionsValid l = true then tipsFrom l (List.range l.length) else []
theorem tipsFrom_cons (l : List S25) (i : Nat) (is : List Nat) : tipsFrom l (i :: is) = if tipN l i = true then tipsFrom l is else (i : Int) :: tipsFrom l is := by
  unfold tipsFrom
  by_cases h : tipN l i = true <;> simp [h]
theorem tipsOf_len (l : List S25) : (tipsOf l).length ≤ 12 := by
  unfold tipsOf
  split
  · rename_i h
    have := versionsValid_len h
    unfold tipsFrom
    have := List.length_filter_le (fun i => !tipN l i) (List.range l.length)
    simp only [List.length_map]
    simp only [List.length_range] at this
    omega
  · simp
theorem range_drop {n i : Nat} (h : i < n) : (List.range n).drop i = i :: (List.range n).drop (i + 1) := by
  rw [drop_cons _ 0 i (by simpa using h)]
  simp [List.getD_eq_getElem?_getD, h]
theorem any_take_succ {α : Type} (l : List α) (z : α) (p : α → Bool) (i : Nat) (h : i < l.length) : (l.take (i + 1)).any p = ((l.take i).any p || p (l.getD i z)) := by
  rw [show l.take (i + 1) = l.take i ++ [l.getD i z] by rw [List.take_add_one, List.getD_eq_getElem?_getD, List.getElem?_eq_getElem h]; rfl]
  simp
/-- The marks after so many versions. -/
def seen (l : List S25) (i : Nat) : List Bool := (List.range l.length).map (fun (j : Nat) => (l.take i).any (fun v => v.f1 == (j : Int)))
theorem seen_len (l : List S25) (i : Nat) : (seen l i).length = l.length := by simp [seen]
theorem seen_succ {l : List S25} {i : Nat} (h : i < l.length) : seen l (i + 1) = if 0 ≤ (l.getD i z25).f1 then (seen l i).set (l.getD i z25).f1.toNat true else seen l i := by
  apply List.ext_getElem?
  intro j
  generalize hv : l.getD i z25 = v
  by_cases hj : j < l.length
  · have e1 : (seen l (i + 1))[j]? = some ((l.take i).any (fun v => v.f1 == (j : Int)) || v.f1 == (j : Int)) := by
      unfold seen
      rw [List.getElem?_map, List.getElem?_range hj, Option.map_some, any_take_succ l z25 _ i h, hv]
    have e2 : (seen l i)[j]? = some ((l.take i).any (fun v => v.f1 == (j : Int))) := by
      unfold seen
      rw [List.getElem?_map, List.getElem?_range hj, Option.map_some]
    rw [e1]
    by_cases h0 : 0 ≤ v.f1
    · rw [if_pos h0]
      by_cases hjj : v.f1.toNat = j
      · subst hjj
        rw [List.getElem?_set_self (by rw [seen_len]; exact hj)]
        simp
        omega
      · rw [List.getElem?_set_ne hjj, e2]
        have : (v.f1 == (j : Int)) = false := by simp; omega
        rw [this, Bool.or_false]
    · rw [if_neg h0, e2]
      have : (v.f1 == (j : Int)) = false := by simp; omega
      rw [this, Bool.or_false]
  · have hs : (seen l (i + 1))[j]? = none := List.getElem?_eq_none (by rw [seen_len]; omega)
    rw [hs]
    symm
    apply List.getElem?_eq_none
    split
    · rw [List.length_set, seen_len]; omega
    · rw [seen_len]; omega
theorem rdOf_nat {α : Type} (z : α) (xs : List α) (i : Nat) : rdOf z xs (i : Int) = xs.getD i z := by simp [rdOf]
theorem impl_tips_ev (l : List S25) (hl : VersSized l) : Ev (fun k => impl_TipsOf.f k l) (tipsOf l) := by
  unfold impl_TipsOf.f tipsOf
  rw [Ev_bd (impl_vers_ev l hl), Ev_ite]
  by_cases h : versionsValid l = true
  · rw [if_pos h, if_pos h]
    have hlen := versionsValid_len h
    rw [Ev_pos (by omega), Ev_pos (by omega)]
    have last : ∀ d i (acc : List Int), i + d = l.length → acc.length ≤ i → Ev (fun k => impl_TipsOf.l1 k (seen l l.length) acc (l.length : Int) (i : Int)) (acc ++ tipsFrom l ((List.range l.length).drop i)) := by
      intro d
      induction d with
      | zero =>
        intro i acc hi ha
        refine Ev_succ.mpr ?_
        simp only [impl_TipsOf.l1]
        rw [Ev_neg (by omega), List.drop_eq_nil_of_le (by simp; omega)]
        exact Ev_some.mpr (by simp [tipsFrom])
      | succ d ih =>
        intro i acc hi ha
        refine Ev_succ.mpr ?_
        have e : rdOf false (seen l l.length) (i : Int) = tipN l i := by
          rw [rdOf_nat]
          unfold seen tipN
          simp [List.getD_eq_getElem?_getD, List.getElem?_map, List.getElem?_range (show i < l.length by omega)]
        simp only [impl_TipsOf.l1, w64s i (by omega), e]
        rw [Ev_pos (by omega), Ev_pos (by omega), Ev_pos (by rw [seen_len]; omega), range_drop (by omega), tipsFrom_cons, Ev_ite]
        split
        · exact ih (i + 1) acc (by omega) (by omega)
        · rw [Ev_pos (by omega)]
          have := ih (i + 1) (acc ++ [(i : Int)]) (by omega) (by simp; omega)
          simpa using this
    have first : ∀ d i, i + d = l.length → Ev (fun k => impl_TipsOf.l0 k l (seen l i) l (l.length : Int) (i : Int)) (tipsFrom l (List.range l.length)) := by
      intro d
      induction d with
      | zero =>
        intro i hi
        obtain rfl : i = l.length := by omega
        refine Ev_succ.mpr ?_
        simp only [impl_TipsOf.l0]
        rw [Ev_neg (by omega)]
        have := last l.length 0 [] (by omega) (by simp)
        simpa using this
      | succ d ih =>
        intro i hi
        refine Ev_succ.mpr ?_
        have hb := bef_in h (n := (i : Int)) (by omega) (by omega)
        have e : bef l (i : Int) = (l.getD i z25).f1 := by simp [bef]
        rw [e] at hb
        have ihh := ih (i + 1) (by omega)
        rw [seen_succ (by omega)] at ihh
        simp only [impl_TipsOf.l0, w64s i (by omega), rdVersion]
        rw [Ev_pos (by omega), Ev_pos (by omega), Ev_pos (by omega), Ev_ite]
        by_cases h0 : 0 ≤ (l.getD i z25).f1
        · rw [if_pos h0] at ihh
          rw [if_pos (by omega), Ev_pos h0, Ev_pos (by rw [seen_len]; omega)]
          exact ihh
        · rw [if_neg h0] at ihh
          rw [if_neg (by omega)]
          exact ihh
    have e0 : List.replicate ((l.length : Int) : Int).toNat false = seen l 0 := by
      unfold seen
      apply List.ext_getElem?
      intro j
      by_cases hj : j < l.length
      · simp [List.getElem?_replicate, hj, List.getElem?_range]
      · rw [List.getElem?_eq_none (by simp; omega), List.getElem?_eq_none (by simp; omega)]
    rw [e0]
    exact first l.length 0 (by omega)
  · rw [if_neg h, if_neg h]
    exact Ev_some.mpr rfl
theorem spec_tips_ev (l : List S25) (hl : VersSized l) : Ev (fun k => spec_TipsOf.f k l) (tipsOf l) := by
  unfold spec_TipsOf.f tipsOf
  have hn := hl.1
  by_cases h : versionsValid l = true
  · rw [if_pos h]
    have hlen := versionsValid_len h
    have inner : ∀ d j (b : Bool) (i : Nat) (acc : List Int) r, j + d = l.length → i < l.length → acc.length ≤ i → Ev (fun k => spec_TipsOf.l0 k l (if (b || (l.drop j).any (fun v => v.f1 == (i : Int))) = true then acc else acc ++ [(i : Int)]) ((i + 1 : Nat) : Int)) r → Ev (fun k => spec_TipsOf.l1 k l acc (i : Int) b (j : Int)) r := by
      intro d
      induction d with
      | zero =>
        intro j b i acc r hj hi ha hr
        refine Ev_succ.mpr ?_
        rw [List.drop_eq_nil_of_le (by omega)] at hr
        simp only [spec_TipsOf.l1, w64s i (by omega)]
        rw [Ev_neg (by omega)]
        cases b
        · rw [Ev_neg (by simp), Ev_pos (by omega)]
          simpa using hr
        · rw [Ev_pos rfl]
          simpa using hr
      | succ d ih =>
        intro j b i acc r hj hi ha hr
        refine Ev_succ.mpr ?_
        rw [drop_cons l z25 j (by omega)] at hr
        simp only [spec_TipsOf.l1, w64s j (by omega), rdVersion]
        rw [Ev_pos (by omega)]
        cases b
        · rw [Ev_neg (by simp), Ev_pos (by omega)]
          refine ih (j + 1) _ i acc r (by omega) hi ha ?_
          simpa using hr
        · rw [Ev_pos rfl]
          refine ih (j + 1) true i acc r (by omega) hi ha ?_
          simpa using hr
    have outer : ∀ d i (acc : List Int), i + d = l.length → acc.length ≤ i → Ev (fun k => spec_TipsOf.l0 k l acc (i : Int)) (acc ++ tipsFrom l ((List.range l.length).drop i)) := by
      intro d
      induction d with
      | zero =>
        intro i acc hi ha
        refine Ev_succ.mpr ?_
        simp only [spec_TipsOf.l0]
        rw [Ev_neg (by omega), List.drop_eq_nil_of_le (by simp; omega)]
        refine Ev_succ.mpr ?_
        simp only [spec_TipsOf.j1]
        rw [Ev_neg (by simp)]
        exact Ev_some.mpr (by simp [tipsFrom])
      | succ d ih =>
        intro i acc hi ha
        refine Ev_succ.mpr ?_
        simp only [spec_TipsOf.l0]
        rw [Ev_pos (by omega), Ev_bd (spec_vers_ev l hl), h]
        refine Ev_succ.mpr ?_
        simp only [spec_TipsOf.j1, if_true]
        refine inner l.length 0 false i acc _ (by omega) (by omega) ha ?_
        rw [List.drop_zero, Bool.false_or, range_drop (by omega), tipsFrom_cons]
        by_cases ht : tipN l i = true
        · rw [if_pos ht]
          unfold tipN at ht
          rw [if_pos ht]
          exact ih (i + 1) acc (by omega) (by omega)
        · rw [if_neg ht]
          unfold tipN at ht
          rw [if_neg ht]
          have := ih (i + 1) (acc ++ [(i : Int)]) (by omega) (by simp; omega)
          simpa using this
    have := outer l.length 0 [] (by omega) (by simp)
    simpa using this
  · rw [if_neg h]
    have hp : 0 < l.length := by
      cases l with
      | nil => exact absurd (by decide) h
      | cons a l => simp
    refine Ev_succ.mpr ?_
    simp only [spec_TipsOf.l0]
    rw [Ev_pos (by omega), Ev_bd (spec_vers_ev l hl)]
    refine Ev_succ.mpr ?_
    simp only [spec_TipsOf.j1]
    rw [Ev_neg h]
    exact Ev_some.mpr rfl
/-- Every version is on the line of some tip. -/
theorem tips_reach {l : List S25} (h : versionsValid l = true) : ∀ (d i : Nat), i + d = l.length → i < l.length → ∃ t ∈ tipsOf l, (i : Int) ∈ lineOf l t := by
  intro d
  induction d using Nat.strongRecOn with
  | _ d ih =>
    intro i hi hlt
    by_cases ht : tipN l i = true
    · unfold tipN at ht
      obtain ⟨v, hv, he⟩ := List.any_eq_true.1 ht
      obtain ⟨j, hj, rfl⟩ := List.getElem_of_mem hv
      have he : (l[j]'hj).f1 = (i : Int) := by simpa using he
      have hb := bef_in h (n := (j : Int)) (by omega) (by omega)
      have e : bef l (j : Int) = (i : Int) := by
        unfold bef
        simp only [Int.toNat_natCast, List.getD_eq_getElem?_getD, List.getElem?_eq_getElem hj, Option.getD_some]
        exact he
      rw [e] at hb
      obtain ⟨t, ht, hm⟩ := ih (l.length - j) (by omega) j (by omega) hj
      refine ⟨t, ht, ?_⟩
      have := lineOf_bef hm (by omega)
      rwa [e] at this
    · refine ⟨(i : Int), ?_, lineOf_self h (by omega) (by omega)⟩
      unfold tipsOf tipsFrom
      rw [if_pos h]
      refine List.mem_map.2 ⟨i, List.mem_filter.2 ⟨List.mem_range.2 hlt, by simpa using ht⟩, rfl⟩
end Go.Proofs.Ytbjfbmoeboagaaa.Mod
